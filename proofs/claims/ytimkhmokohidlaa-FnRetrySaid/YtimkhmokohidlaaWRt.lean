/- Walks of functions, each with the function on data that it follows. -/
import Derived.Test.YtimkhmokohidlaaWDr
namespace Go.Proofs.SL
open Go
abbrev T_Retry := Int × Int × Int × Int
abbrev D_Retry := Int × Int × Int × Int
theorem fld61_0 : fldOf Try.prog 61 0 = some 0 := by kernel_rfl
theorem fn73 : IsFn Try.prog 73 := ⟨_, Try.func73, by kernel_rfl, rfl⟩
theorem fld61_1 : fldOf Try.prog 61 1 = some 1 := by kernel_rfl
theorem fld61_2 : fldOf Try.prog 61 2 = some 2 := by kernel_rfl
theorem fld61_3 : fldOf Try.prog 61 3 = some 3 := by kernel_rfl
theorem agg61 : aggOf Try.prog 61 = some 4 := by kernel_rfl
theorem fn87 : IsFn Try.prog 87 := ⟨_, Try.func87, by kernel_rfl, rfl⟩
theorem zero61 : zeroOf Try.prog 61 = some [.int .i64 0, .int .i64 0, .int .i64 0, .int .i64 0] := by kernel_rfl
theorem bld61 : bldOf Try.prog 61 = some ([(0, 1), (1, 1), (2, 1), (3, 1)], [.int .i64 0, .int .i64 0, .int .i64 0, .int .i64 0]) := by kernel_rfl
theorem fn35 : IsFn Try.prog 35 := ⟨_, Try.func35, by kernel_rfl, rfl⟩
theorem fn77 : IsFn Try.prog 77 := ⟨_, Try.func77, by kernel_rfl, rfl⟩
theorem fn38 : IsFn Try.prog 38 := ⟨_, Try.func38, by kernel_rfl, rfl⟩
theorem fn91 : IsFn Try.prog 91 := ⟨_, Try.func91, by kernel_rfl, rfl⟩
theorem fn40 : IsFn Try.prog 40 := ⟨_, Try.func40, by kernel_rfl, rfl⟩
theorem fn89 : IsFn Try.prog 89 := ⟨_, Try.func89, by kernel_rfl, rfl⟩
theorem fn90 : IsFn Try.prog 90 := ⟨_, Try.func90, by kernel_rfl, rfl⟩
theorem fn58 : IsFn Try.prog 58 := ⟨_, Try.func58, by kernel_rfl, rfl⟩
theorem fn88 : IsFn Try.prog 88 := ⟨_, Try.func88, by kernel_rfl, rfl⟩
theorem fn9 : IsFn Try.prog 9 := ⟨_, Try.func9, by kernel_rfl, rfl⟩
theorem fn15 : IsFn Try.prog 15 := ⟨_, Try.func15, by kernel_rfl, rfl⟩
theorem fn36 : IsFn Try.prog 36 := ⟨_, Try.func36, by kernel_rfl, rfl⟩
theorem und4 : Try.prog.underlying 4 = some (.bool) := by kernel_rfl
theorem eqsh61 : eqShape Try.prog 61 = some [(3, 0), (3, 1), (3, 2), (3, 3)] := by kernel_rfl
theorem fn37 : IsFn Try.prog 37 := ⟨_, Try.func37, by kernel_rfl, rfl⟩
theorem fn39 : IsFn Try.prog 39 := ⟨_, Try.func39, by kernel_rfl, rfl⟩
noncomputable def i_RetryOk (a0 : D_Retry) : Option Bool :=
  Option.bind (i_within a0.1 1 100) (fun y1 => gb y1 (i_within a0.2.1 a0.1 10000) (fun y2 => gb (y1 && y2) (i_within a0.2.2.1 0 12) (fun y3 => gb ((y1 && y2) && y3) (i_within a0.2.2.2 0 1000000) (fun y4 => some (((y1 && y2) && y3) && y4)))))

theorem i_RetryOk_walk (w : World) (a0 : T_Retry) (h0 : GT.rd w [] a0) (r : Bool) (hp : i_RetryOk (GT.dat a0) = some r) : Spec Try.prog 87 [.agg (GT.cells a0).toArray].toArray w [] (IsV (.bool r)) := by
  obtain ⟨a0_1, a0_2, a0_3, a0_4⟩ := a0
  change Spec _ _ ([Value.agg #[.int .i64 a0_1, .int .i64 a0_2, .int .i64 a0_3, .int .i64 a0_4]] : List Value).toArray w [] _
  refine Spec.intro Try.func87 rfl Try.ntmps87 rfl ?_
  unfold i_RetryOk at hp
  try dsimp only [dat_pair, dat_int, dat_bool, dat_str, dat_ar] at hp
  refine W_seq ?_
  refine W_region ?_
  refine L_box rfl rfl (fun bk1 => ?_)
  refine L_assign rfl rfl ?_
  refine L_nil ?_
  refine W_seq ?_
  have ho := hp; clear hp; obtain ⟨y1, hy1, hp⟩ := bind_any ho; clear ho
  have ho := hp; clear hp; obtain ⟨y2, hy2, hp⟩ := gb_any ho; clear ho
  have ho := hp; clear hp; obtain ⟨y3, hy3, hp⟩ := gb_any ho; clear ho
  have ho := hp; clear hp; obtain ⟨y4, hy4, hp⟩ := gb_any ho; clear ho
  refine W_D0 [2] mix (by kernel_rfl) rfl ?_
  refine D_fieldAddr GC.none (OpV.t rfl) fld61_0 ?_
  refine D_load GC.none (OpV.t rfl) (fun hg => RdC.blk (by first | (with_reducible repeat (first | exact List.Mem.head _ | apply List.Mem.tail)); done | (repeat (first | exact List.Mem.head _ | apply List.Mem.tail)))) one3 rfl ?_
  refine D_callX GC.none fn73 (OpVs.cons (OpV.t rfl) (OpVs.cons OpV.c (OpVs.cons OpV.c (OpVs.nil)))) (by exact fun hg w F hF hM => i_within_walk w a0_1 1 100  _ hy1) ?_
  refine D_move GC.none (OpV.t rfl) ?_
  refine D_fieldAddr (GC.some rfl rfl) (OpV.t rfl) fld61_1 ?_
  refine D_load (GC.some rfl rfl) (OpV.s rfl) (fun hg => RdC.blk (by first | (with_reducible repeat (first | exact List.Mem.head _ | apply List.Mem.tail)); done | (repeat (first | exact List.Mem.head _ | apply List.Mem.tail)))) one3 rfl ?_
  refine D_fieldAddr (GC.some rfl rfl) (OpV.t rfl) fld61_0 ?_
  refine D_load (GC.some rfl rfl) (OpV.s rfl) (fun hg => RdC.blk (by first | (with_reducible repeat (first | exact List.Mem.head _ | apply List.Mem.tail)); done | (repeat (first | exact List.Mem.head _ | apply List.Mem.tail)))) one3 rfl ?_
  refine D_callX (GC.some rfl rfl) fn73 (OpVs.cons (OpV.s rfl) (OpVs.cons (OpV.s rfl) (OpVs.cons OpV.c (OpVs.nil)))) (by exact fun hg w F hF hM => i_within_walk w a0_2 a0_1 10000  _ (hy2 hg.2)) ?_
  refine D_and (cy := _) GC.none (OpV.t rfl) (OpV.s rfl) (fun h hb => ⟨h, hb⟩) ?_
  refine D_move GC.none (OpV.t rfl) ?_
  refine D_fieldAddr (GC.some rfl rfl) (OpV.t rfl) fld61_2 ?_
  refine D_load (GC.some rfl rfl) (OpV.s rfl) (fun hg => RdC.blk (by first | (with_reducible repeat (first | exact List.Mem.head _ | apply List.Mem.tail)); done | (repeat (first | exact List.Mem.head _ | apply List.Mem.tail)))) one3 rfl ?_
  refine D_callX (GC.some rfl rfl) fn73 (OpVs.cons (OpV.s rfl) (OpVs.cons OpV.c (OpVs.cons OpV.c (OpVs.nil)))) (by exact fun hg w F hF hM => i_within_walk w a0_3 0 12  _ (hy3 hg.2)) ?_
  refine D_and (cy := _) GC.none (OpV.t rfl) (OpV.s rfl) (fun h hb => ⟨h, hb⟩) ?_
  refine D_move GC.none (OpV.t rfl) ?_
  refine D_fieldAddr (GC.some rfl rfl) (OpV.t rfl) fld61_3 ?_
  refine D_load (GC.some rfl rfl) (OpV.s rfl) (fun hg => RdC.blk (by first | (with_reducible repeat (first | exact List.Mem.head _ | apply List.Mem.tail)); done | (repeat (first | exact List.Mem.head _ | apply List.Mem.tail)))) one3 rfl ?_
  refine D_callX (GC.some rfl rfl) fn73 (OpVs.cons (OpV.s rfl) (OpVs.cons OpV.c (OpVs.cons OpV.c (OpVs.nil)))) (by exact fun hg w F hF hM => i_within_walk w a0_4 0 1000000  _ (hy4 hg.2)) ?_
  refine D_and (cy := _) GC.none (OpV.t rfl) (OpV.s rfl) (fun h hb => ⟨h, hb⟩) ?_
  refine D_assign GC.none (OpV.t rfl) ?_
  refine DV_nil ?_
  refine Give_is rfl rfl ?_
  refine Give_drop rfl ?_
  refine Give_drop rfl ?_
  refine Give_drop rfl ?_
  refine Give_drop rfl ?_
  refine Give_drop rfl ?_
  refine Give_drop rfl ?_
  refine Give_drop rfl ?_
  refine Give_drop rfl ?_
  refine Give_drop rfl ?_
  refine Give_drop rfl ?_
  refine Give_drop rfl ?_
  refine Give_drop rfl ?_
  refine Give_drop rfl ?_
  refine Give_drop rfl ?_
  refine Give_drop rfl ?_
  refine Give_drop rfl ?_
  refine Give_drop rfl ?_
  refine Give_drop rfl ?_
  refine Give_drop rfl ?_
  refine Give_drop rfl ?_
  refine Give_nil ?_
  obtain rfl := Option.some.inj hp
  refine W_ret ?_
  refine res1 rfl (ResOK.tmp rfl) ⟨rfl, rfl⟩ (MSub.nil _)

noncomputable def i_RetryMay (a0 : D_Retry) (a1 : Int) : Option Bool :=
  Option.bind (i_RetryOk (a0.1, a0.2.1, a0.2.2.1, a0.2.2.2)) (fun y1 => some ((y1 && (decide (a0.2.2.1 < 12))) && (decide (a0.2.2.2 ≤ a1))))

theorem i_RetryMay_walk (w : World) (a0 : T_Retry) (a1 : Int) (h0 : GT.rd w [] a0) (r : Bool) (hp : i_RetryMay (GT.dat a0) a1 = some r) : Spec Try.prog 35 [.agg (GT.cells a0).toArray, .int .i64 a1].toArray w [] (IsV (.bool r)) := by
  obtain ⟨a0_1, a0_2, a0_3, a0_4⟩ := a0
  change Spec _ _ ([Value.agg #[.int .i64 a0_1, .int .i64 a0_2, .int .i64 a0_3, .int .i64 a0_4], .int .i64 a1] : List Value).toArray w [] _
  refine Spec.intro Try.func35 rfl Try.ntmps35 rfl ?_
  unfold i_RetryMay at hp
  try dsimp only [dat_pair, dat_int, dat_bool, dat_str, dat_ar] at hp
  refine W_seq ?_
  refine W_region ?_
  refine L_box rfl rfl (fun bk2 => ?_)
  refine L_assign rfl rfl ?_
  refine L_nil ?_
  refine W_seq ?_
  have ho := hp; clear hp; obtain ⟨y1, hy1, hp⟩ := bind_any ho; clear ho
  refine W_D0 [4] mix (by kernel_rfl) rfl ?_
  refine D_loadW GC.none (OpV.t rfl) (fun hg => RdC.blk (by first | (with_reducible repeat (first | exact List.Mem.head _ | apply List.Mem.tail)); done | (repeat (first | exact List.Mem.head _ | apply List.Mem.tail)))) (by exact agg61) ?_
  refine D_callX GC.none fn87 (OpVs.cons (OpV.t rfl) (OpVs.nil)) (by exact fun hg w F hF hM => i_RetryOk_walk w (a0_1, a0_2, a0_3, a0_4) (RdT.nowS (RdT.pair RdT.int (RdT.pair RdT.int (RdT.pair RdT.int RdT.int))) hF hM) _ hy1) ?_
  refine D_move GC.none (OpV.t rfl) ?_
  refine D_fieldAddr (GC.some rfl rfl) (OpV.t rfl) fld61_2 ?_
  refine D_load (GC.some rfl rfl) (OpV.s rfl) (fun hg => RdC.blk (by first | (with_reducible repeat (first | exact List.Mem.head _ | apply List.Mem.tail)); done | (repeat (first | exact List.Mem.head _ | apply List.Mem.tail)))) one3 rfl ?_
  refine D_bin (GC.some rfl rfl) (OpV.s rfl) OpV.c (fun hg => bv_lss) ?_
  refine D_and (cy := _) GC.none (OpV.t rfl) (OpV.s rfl) (fun h hb => ⟨h, hb⟩) ?_
  refine D_move GC.none (OpV.t rfl) ?_
  refine D_move (GC.some rfl rfl) (OpV.t rfl) ?_
  refine D_fieldAddr (GC.some rfl rfl) (OpV.t rfl) fld61_3 ?_
  refine D_load (GC.some rfl rfl) (OpV.s rfl) (fun hg => RdC.blk (by first | (with_reducible repeat (first | exact List.Mem.head _ | apply List.Mem.tail)); done | (repeat (first | exact List.Mem.head _ | apply List.Mem.tail)))) one3 rfl ?_
  refine D_bin (GC.some rfl rfl) (OpV.s rfl) (OpV.s rfl) (fun hg => bv_geq) ?_
  refine D_and (cy := _) GC.none (OpV.t rfl) (OpV.s rfl) (fun h hb => ⟨h, hb⟩) ?_
  refine D_assign GC.none (OpV.t rfl) ?_
  refine DV_nil ?_
  refine Give_is rfl rfl ?_
  refine Give_drop rfl ?_
  refine Give_drop rfl ?_
  refine Give_drop rfl ?_
  refine Give_drop rfl ?_
  refine Give_drop rfl ?_
  refine Give_drop rfl ?_
  refine Give_drop rfl ?_
  refine Give_drop rfl ?_
  refine Give_drop rfl ?_
  refine Give_drop rfl ?_
  refine Give_drop rfl ?_
  refine Give_drop rfl ?_
  refine Give_drop rfl ?_
  refine Give_nil ?_
  obtain rfl := Option.some.inj hp
  refine W_ret ?_
  refine res1 rfl (ResOK.tmp rfl) ⟨rfl, rfl⟩ (MSub.nil _)

noncomputable def i_RetryFail (a0 : D_Retry) (a1 : Int) : Option (D_Retry × Bool) :=
  Option.bind (i_RetryOk (a0.1, a0.2.1, a0.2.2.1, a0.2.2.2)) (fun y1 => cond (!y1) (some ((0, 0, 0, 0), false)) (Option.bind (shlP .i64 a0.1 a0.2.2.1) (fun y3 => Option.bind (i_RetryMay (a0.1, a0.2.1, a0.2.2.1, a0.2.2.2) a1) (fun y4 => cond ((!y4) || (decide (IntKind.wrap .i64 (1000000 - (if y3 < a0.2.1 then y3 else a0.2.1)) < a1))) (some ((a0.1, a0.2.1, a0.2.2.1, a0.2.2.2), false)) (some ((a0.1, a0.2.1, IntKind.wrap .i64 (a0.2.2.1 + 1), IntKind.wrap .i64 (a1 + (if y3 < a0.2.1 then y3 else a0.2.1))), true))))))

theorem i_RetryFail_walk (w : World) (a0 : T_Retry) (a1 : Int) (h0 : GT.rd w [] a0) (r : D_Retry × Bool) (hp : i_RetryFail (GT.dat a0) a1 = some r) : Spec Try.prog 36 [.agg (GT.cells a0).toArray, .int .i64 a1].toArray w [] (fun v M => ∃ (x0 : T_Retry) (x1 : Bool), v = .tuple #[.agg (GT.cells x0).toArray, .bool x1] ∧ (GT.dat x0, GT.dat x1) = r ∧ M = []) := by
  obtain ⟨a0_1, a0_2, a0_3, a0_4⟩ := a0
  change Spec _ _ ([Value.agg #[.int .i64 a0_1, .int .i64 a0_2, .int .i64 a0_3, .int .i64 a0_4], .int .i64 a1] : List Value).toArray w [] _
  refine Spec.intro Try.func36 rfl Try.ntmps36 rfl ?_
  unfold i_RetryFail at hp
  try dsimp only [dat_pair, dat_int, dat_bool, dat_str, dat_ar] at hp
  refine W_seq ?_
  refine W_region ?_
  refine L_box rfl rfl (fun bk2 => ?_)
  refine L_alloc rfl zero61 (fun bk4 => ?_)
  refine L_assign rfl rfl ?_
  refine L_nil ?_
  refine W_seq ?_
  refine W_seq ?_
  refine W_region ?_
  refine L_loadW rfl rfl (RdC.blk (by first | (with_reducible repeat (first | exact List.Mem.head _ | apply List.Mem.tail)); done | (repeat (first | exact List.Mem.head _ | apply List.Mem.tail)))) (by exact agg61) ?_
  have ho := hp; clear hp; obtain ⟨y1, hy1, hp⟩ := bind_any ho; clear ho
  refine L_callX rfl fn87 rfl (by exact fun w hw => i_RetryOk_walk w (a0_1, a0_2, a0_3, a0_4) (RdT.now (RdT.pair RdT.int (RdT.pair RdT.int (RdT.pair RdT.int RdT.int))) hw) _ hy1) ?_
  refine L_not rfl rfl ?_
  refine L_nil ?_
  refine W_weaken (l' := [(1, _), (2, _), (4, _), (9, _)]) (Sub.cons rfl (Sub.cons rfl (Sub.cons rfl (Sub.cons rfl (Sub.nil _))))) (MSub.refl _) ?_
  refine W_cond rfl (fun hc2 => ?_) (fun hc2 => ?_)
  · skip
    replace hp := cond_t hc2 hp
    refine W_seq ?_
    refine W_region ?_
    refine L_build (xs := []) (cs := [.int .i64 0, .int .i64 0, .int .i64 0, .int .i64 0]) rfl rfl bld61 rfl ?_
    refine L_storeW rfl rfl (by first | (with_reducible repeat (first | exact Pick.here _ | apply Pick.there)); done | (repeat (first | exact Pick.here _ | apply Pick.there))) (by exact agg61) (by rfl) (by first | exact allOne rfl | exact fun v hv => GT.one _ v hv | (simp [Value.oneCell', TL.hdr, Value.cells]; done)) ?_
    refine L_assign rfl rfl ?_
    refine L_nil ?_
    obtain rfl := Option.some.inj hp
    refine W_ret ?_
    refine res2 rfl (ResOK.cell rfl (by first | (with_reducible repeat (first | exact List.Mem.head _ | apply List.Mem.tail)); done | (repeat (first | exact List.Mem.head _ | apply List.Mem.tail))) (by exact agg61)) (ResOK.tmp rfl) ⟨(0, 0, 0, 0), false, rfl, rfl, rfl⟩ (MSub.nil _)
  · skip
    replace hp := cond_f hc2 hp
    refine W_skip ?_
    refine W_seq ?_
    have ho := hp; clear hp; obtain ⟨y3, hy3, hp⟩ := bind_any ho; clear ho
    refine W_D0 [6] mix (by kernel_rfl) rfl ?_
    refine D_fieldAddr GC.none (OpV.t rfl) fld61_1 ?_
    refine D_load GC.none (OpV.t rfl) (fun hg => RdC.blk (by first | (with_reducible repeat (first | exact List.Mem.head _ | apply List.Mem.tail)); done | (repeat (first | exact List.Mem.head _ | apply List.Mem.tail)))) one3 rfl ?_
    refine D_fieldAddr GC.none (OpV.t rfl) fld61_0 ?_
    refine D_load GC.none (OpV.t rfl) (fun hg => RdC.blk (by first | (with_reducible repeat (first | exact List.Mem.head _ | apply List.Mem.tail)); done | (repeat (first | exact List.Mem.head _ | apply List.Mem.tail)))) one3 rfl ?_
    refine D_fieldAddr GC.none (OpV.t rfl) fld61_2 ?_
    refine D_load GC.none (OpV.t rfl) (fun hg => RdC.blk (by first | (with_reducible repeat (first | exact List.Mem.head _ | apply List.Mem.tail)); done | (repeat (first | exact List.Mem.head _ | apply List.Mem.tail)))) one3 rfl ?_
    refine D_bin GC.none (OpV.t rfl) (OpV.t rfl) (fun hg => (bv_shlP hy3)) ?_
    refine D_min GC.none (OpV.t rfl) (OpV.t rfl) ?_
    refine D_assign GC.none (OpV.t rfl) ?_
    refine DV_nil ?_
    refine Give_is rfl rfl ?_
    refine Give_drop rfl ?_
    refine Give_drop rfl ?_
    refine Give_drop rfl ?_
    refine Give_drop rfl ?_
    refine Give_drop rfl ?_
    refine Give_drop rfl ?_
    refine Give_drop rfl ?_
    refine Give_drop rfl ?_
    refine Give_nil ?_
    refine W_seq ?_
    refine W_seq ?_
    have ho := hp; clear hp; obtain ⟨y4, hy4, hp⟩ := bind_any ho; clear ho
    refine W_D0 [28] mix (by kernel_rfl) rfl ?_
    refine D_loadW GC.none (OpV.t rfl) (fun hg => RdC.blk (by first | (with_reducible repeat (first | exact List.Mem.head _ | apply List.Mem.tail)); done | (repeat (first | exact List.Mem.head _ | apply List.Mem.tail)))) (by exact agg61) ?_
    refine D_move GC.none (OpV.t rfl) ?_
    refine D_callX GC.none fn35 (OpVs.cons (OpV.t rfl) (OpVs.cons (OpV.t rfl) (OpVs.nil))) (by exact fun hg w F hF hM => i_RetryMay_walk w (a0_1, a0_2, a0_3, a0_4) a1 (RdT.nowS (RdT.pair RdT.int (RdT.pair RdT.int (RdT.pair RdT.int RdT.int))) hF hM) _ hy4) ?_
    refine D_not GC.none (OpV.t rfl) ?_
    refine D_move GC.none (OpV.t rfl) ?_
    refine D_move (GC.some rfl rfl) (OpV.t rfl) ?_
    refine D_move (GC.some rfl rfl) (OpV.t rfl) ?_
    refine D_bin (GC.some rfl rfl) OpV.c (OpV.s rfl) (fun hg => bv_sub) ?_
    refine D_bin (GC.some rfl rfl) (OpV.s rfl) (OpV.s rfl) (fun hg => bv_gtr) ?_
    refine D_or (cy := _) GC.none (OpV.t rfl) (OpV.s rfl) (fun h hb => ⟨h, hb⟩) ?_
    refine DV_nil ?_
    refine Give_is rfl rfl ?_
    refine Give_drop rfl ?_
    refine Give_drop rfl ?_
    refine Give_drop rfl ?_
    refine Give_drop rfl ?_
    refine Give_drop rfl ?_
    refine Give_drop rfl ?_
    refine Give_drop rfl ?_
    refine Give_drop rfl ?_
    refine Give_drop rfl ?_
    refine Give_nil ?_
    refine W_weaken (l' := [(1, _), (2, _), (4, _), (6, _), (28, _)]) (Sub.cons rfl (Sub.cons rfl (Sub.cons rfl (Sub.cons rfl (Sub.cons rfl (Sub.nil _)))))) (MSub.refl _) ?_
    refine W_cond rfl (fun hc5 => ?_) (fun hc5 => ?_)
    · skip
      replace hp := cond_t hc5 hp
      refine W_seq ?_
      refine W_region ?_
      refine L_loadW rfl rfl (RdC.blk (by first | (with_reducible repeat (first | exact List.Mem.head _ | apply List.Mem.tail)); done | (repeat (first | exact List.Mem.head _ | apply List.Mem.tail)))) (by exact agg61) ?_
      refine L_storeW rfl rfl (by first | (with_reducible repeat (first | exact Pick.here _ | apply Pick.there)); done | (repeat (first | exact Pick.here _ | apply Pick.there))) (by exact agg61) (by rfl) (by first | exact allOne rfl | exact fun v hv => GT.one _ v hv | (simp [Value.oneCell', TL.hdr, Value.cells]; done)) ?_
      refine L_assign rfl rfl ?_
      refine L_nil ?_
      obtain rfl := Option.some.inj hp
      refine W_ret ?_
      refine res2 rfl (ResOK.cell rfl (by first | (with_reducible repeat (first | exact List.Mem.head _ | apply List.Mem.tail)); done | (repeat (first | exact List.Mem.head _ | apply List.Mem.tail))) (by exact agg61)) (ResOK.tmp rfl) ⟨(a0_1, a0_2, a0_3, a0_4), false, rfl, rfl, rfl⟩ (MSub.nil _)
    · skip
      replace hp := cond_f hc5 hp
      refine W_skip ?_
      refine W_seq ?_
      refine W_region ?_
      refine L_fieldAddr rfl rfl fld61_2 ?_
      refine L_load rfl rfl (RdC.blk (by first | (with_reducible repeat (first | exact List.Mem.head _ | apply List.Mem.tail)); done | (repeat (first | exact List.Mem.head _ | apply List.Mem.tail)))) one3 rfl ?_
      refine L_binV rfl rfl rfl bv_add ?_
      refine L_fieldAddr rfl rfl fld61_2 ?_
      refine L_store rfl rfl (by first | (with_reducible repeat (first | exact Pick.here _ | apply Pick.there)); done | (repeat (first | exact Pick.here _ | apply Pick.there))) one3 rfl rfl ?_
      refine L_nil ?_
      refine W_seq ?_
      refine W_region ?_
      refine L_move rfl rfl ?_
      refine L_move rfl rfl ?_
      refine L_binV rfl rfl rfl bv_add ?_
      refine L_fieldAddr rfl rfl fld61_3 ?_
      refine L_store rfl rfl (by first | (with_reducible repeat (first | exact Pick.here _ | apply Pick.there)); done | (repeat (first | exact Pick.here _ | apply Pick.there))) one3 rfl rfl ?_
      refine L_nil ?_
      refine W_seq ?_
      refine W_region ?_
      refine L_loadW rfl rfl (RdC.blk (by first | (with_reducible repeat (first | exact List.Mem.head _ | apply List.Mem.tail)); done | (repeat (first | exact List.Mem.head _ | apply List.Mem.tail)))) (by exact agg61) ?_
      refine L_storeW rfl rfl (by first | (with_reducible repeat (first | exact Pick.here _ | apply Pick.there)); done | (repeat (first | exact Pick.here _ | apply Pick.there))) (by exact agg61) (by rfl) (by first | exact allOne rfl | exact fun v hv => GT.one _ v hv | (simp [Value.oneCell', TL.hdr, Value.cells]; done)) ?_
      refine L_assign rfl rfl ?_
      refine L_nil ?_
      obtain rfl := Option.some.inj hp
      refine W_ret ?_
      refine res2 rfl (ResOK.cell rfl (by first | (with_reducible repeat (first | exact List.Mem.head _ | apply List.Mem.tail)); done | (repeat (first | exact List.Mem.head _ | apply List.Mem.tail))) (by exact agg61)) (ResOK.tmp rfl) ⟨(a0_1, a0_2, IntKind.wrap .i64 (a0_3 + 1), IntKind.wrap .i64 (a1 + (if y3 < a0_2 then y3 else a0_2))), true, rfl, rfl, rfl⟩ (MSub.nil _)

noncomputable def i_RetryGood (a0 : D_Retry) : Option D_Retry :=
  Option.bind (i_RetryOk (a0.1, a0.2.1, a0.2.2.1, a0.2.2.2)) (fun y1 => cond (!y1) (some (0, 0, 0, 0)) (some (a0.1, a0.2.1, 0, 0)))

theorem i_RetryGood_walk (w : World) (a0 : T_Retry) (h0 : GT.rd w [] a0) (r : D_Retry) (hp : i_RetryGood (GT.dat a0) = some r) : Spec Try.prog 37 [.agg (GT.cells a0).toArray].toArray w [] (fun v M => ∃ (x0 : T_Retry), v = .agg (GT.cells x0).toArray ∧ GT.dat x0 = r ∧ M = []) := by
  obtain ⟨a0_1, a0_2, a0_3, a0_4⟩ := a0
  change Spec _ _ ([Value.agg #[.int .i64 a0_1, .int .i64 a0_2, .int .i64 a0_3, .int .i64 a0_4]] : List Value).toArray w [] _
  refine Spec.intro Try.func37 rfl Try.ntmps37 rfl ?_
  unfold i_RetryGood at hp
  try dsimp only [dat_pair, dat_int, dat_bool, dat_str, dat_ar] at hp
  refine W_seq ?_
  refine W_region ?_
  refine L_box rfl rfl (fun bk1 => ?_)
  refine L_alloc rfl zero61 (fun bk2 => ?_)
  refine L_nil ?_
  refine W_seq ?_
  refine W_seq ?_
  refine W_region ?_
  refine L_loadW rfl rfl (RdC.blk (by first | (with_reducible repeat (first | exact List.Mem.head _ | apply List.Mem.tail)); done | (repeat (first | exact List.Mem.head _ | apply List.Mem.tail)))) (by exact agg61) ?_
  have ho := hp; clear hp; obtain ⟨y1, hy1, hp⟩ := bind_any ho; clear ho
  refine L_callX rfl fn87 rfl (by exact fun w hw => i_RetryOk_walk w (a0_1, a0_2, a0_3, a0_4) (RdT.now (RdT.pair RdT.int (RdT.pair RdT.int (RdT.pair RdT.int RdT.int))) hw) _ hy1) ?_
  refine L_not rfl rfl ?_
  refine L_nil ?_
  refine W_weaken (l' := [(1, _), (2, _), (5, _)]) (Sub.cons rfl (Sub.cons rfl (Sub.cons rfl (Sub.nil _)))) (MSub.refl _) ?_
  refine W_cond rfl (fun hc2 => ?_) (fun hc2 => ?_)
  · skip
    replace hp := cond_t hc2 hp
    refine W_seq ?_
    refine W_region ?_
    refine L_build (xs := []) (cs := [.int .i64 0, .int .i64 0, .int .i64 0, .int .i64 0]) rfl rfl bld61 rfl ?_
    refine L_storeW rfl rfl (by first | (with_reducible repeat (first | exact Pick.here _ | apply Pick.there)); done | (repeat (first | exact Pick.here _ | apply Pick.there))) (by exact agg61) (by rfl) (by first | exact allOne rfl | exact fun v hv => GT.one _ v hv | (simp [Value.oneCell', TL.hdr, Value.cells]; done)) ?_
    refine L_nil ?_
    obtain rfl := Option.some.inj hp
    refine W_ret ?_
    refine res1 rfl (ResOK.cell rfl (by first | (with_reducible repeat (first | exact List.Mem.head _ | apply List.Mem.tail)); done | (repeat (first | exact List.Mem.head _ | apply List.Mem.tail))) (by exact agg61)) ⟨(0, 0, 0, 0), rfl, rfl, rfl⟩ (MSub.nil _)
  · skip
    replace hp := cond_f hc2 hp
    refine W_skip ?_
    refine W_seq ?_
    refine W_region ?_
    refine L_fieldAddr rfl rfl fld61_2 ?_
    refine L_store rfl rfl (by first | (with_reducible repeat (first | exact Pick.here _ | apply Pick.there)); done | (repeat (first | exact Pick.here _ | apply Pick.there))) one3 rfl rfl ?_
    refine L_nil ?_
    refine W_seq ?_
    refine W_region ?_
    refine L_fieldAddr rfl rfl fld61_3 ?_
    refine L_store rfl rfl (by first | (with_reducible repeat (first | exact Pick.here _ | apply Pick.there)); done | (repeat (first | exact Pick.here _ | apply Pick.there))) one3 rfl rfl ?_
    refine L_nil ?_
    refine W_seq ?_
    refine W_region ?_
    refine L_loadW rfl rfl (RdC.blk (by first | (with_reducible repeat (first | exact List.Mem.head _ | apply List.Mem.tail)); done | (repeat (first | exact List.Mem.head _ | apply List.Mem.tail)))) (by exact agg61) ?_
    refine L_storeW rfl rfl (by first | (with_reducible repeat (first | exact Pick.here _ | apply Pick.there)); done | (repeat (first | exact Pick.here _ | apply Pick.there))) (by exact agg61) (by rfl) (by first | exact allOne rfl | exact fun v hv => GT.one _ v hv | (simp [Value.oneCell', TL.hdr, Value.cells]; done)) ?_
    refine L_nil ?_
    obtain rfl := Option.some.inj hp
    refine W_ret ?_
    refine res1 rfl (ResOK.cell rfl (by first | (with_reducible repeat (first | exact List.Mem.head _ | apply List.Mem.tail)); done | (repeat (first | exact List.Mem.head _ | apply List.Mem.tail))) (by exact agg61)) ⟨(a0_1, a0_2, 0, 0), rfl, rfl, rfl⟩ (MSub.nil _)

noncomputable def s_RetryOk (a0 : D_Retry) : Option Bool :=
  Option.bind (s_l1In a0.1 1 100) (fun y1 => gb y1 (s_l1In a0.2.1 a0.1 10000) (fun y2 => gb (y1 && y2) (s_l1In a0.2.2.1 0 12) (fun y3 => gb ((y1 && y2) && y3) (s_l1In a0.2.2.2 0 1000000) (fun y4 => some (((y1 && y2) && y3) && y4)))))

theorem s_RetryOk_walk (w : World) (a0 : T_Retry) (h0 : GT.rd w [] a0) (r : Bool) (hp : s_RetryOk (GT.dat a0) = some r) : Spec Try.prog 38 [.agg (GT.cells a0).toArray].toArray w [] (IsV (.bool r)) := by
  obtain ⟨a0_1, a0_2, a0_3, a0_4⟩ := a0
  change Spec _ _ ([Value.agg #[.int .i64 a0_1, .int .i64 a0_2, .int .i64 a0_3, .int .i64 a0_4]] : List Value).toArray w [] _
  refine Spec.intro Try.func38 rfl Try.ntmps38 rfl ?_
  unfold s_RetryOk at hp
  try dsimp only [dat_pair, dat_int, dat_bool, dat_str, dat_ar] at hp
  refine W_seq ?_
  refine W_region ?_
  refine L_box rfl rfl (fun bk1 => ?_)
  refine L_assign rfl rfl ?_
  refine L_nil ?_
  refine W_seq ?_
  have ho := hp; clear hp; obtain ⟨y1, hy1, hp⟩ := bind_any ho; clear ho
  have ho := hp; clear hp; obtain ⟨y2, hy2, hp⟩ := gb_any ho; clear ho
  have ho := hp; clear hp; obtain ⟨y3, hy3, hp⟩ := gb_any ho; clear ho
  have ho := hp; clear hp; obtain ⟨y4, hy4, hp⟩ := gb_any ho; clear ho
  refine W_D0 [2] mix (by kernel_rfl) rfl ?_
  refine D_fieldAddr GC.none (OpV.t rfl) fld61_0 ?_
  refine D_load GC.none (OpV.t rfl) (fun hg => RdC.blk (by first | (with_reducible repeat (first | exact List.Mem.head _ | apply List.Mem.tail)); done | (repeat (first | exact List.Mem.head _ | apply List.Mem.tail)))) one3 rfl ?_
  refine D_callX GC.none fn77 (OpVs.cons (OpV.t rfl) (OpVs.cons OpV.c (OpVs.cons OpV.c (OpVs.nil)))) (by exact fun hg w F hF hM => s_l1In_walk w a0_1 1 100  _ hy1) ?_
  refine D_move GC.none (OpV.t rfl) ?_
  refine D_fieldAddr (GC.some rfl rfl) (OpV.t rfl) fld61_1 ?_
  refine D_load (GC.some rfl rfl) (OpV.s rfl) (fun hg => RdC.blk (by first | (with_reducible repeat (first | exact List.Mem.head _ | apply List.Mem.tail)); done | (repeat (first | exact List.Mem.head _ | apply List.Mem.tail)))) one3 rfl ?_
  refine D_fieldAddr (GC.some rfl rfl) (OpV.t rfl) fld61_0 ?_
  refine D_load (GC.some rfl rfl) (OpV.s rfl) (fun hg => RdC.blk (by first | (with_reducible repeat (first | exact List.Mem.head _ | apply List.Mem.tail)); done | (repeat (first | exact List.Mem.head _ | apply List.Mem.tail)))) one3 rfl ?_
  refine D_callX (GC.some rfl rfl) fn77 (OpVs.cons (OpV.s rfl) (OpVs.cons (OpV.s rfl) (OpVs.cons OpV.c (OpVs.nil)))) (by exact fun hg w F hF hM => s_l1In_walk w a0_2 a0_1 10000  _ (hy2 hg.2)) ?_
  refine D_and (cy := _) GC.none (OpV.t rfl) (OpV.s rfl) (fun h hb => ⟨h, hb⟩) ?_
  refine D_move GC.none (OpV.t rfl) ?_
  refine D_fieldAddr (GC.some rfl rfl) (OpV.t rfl) fld61_2 ?_
  refine D_load (GC.some rfl rfl) (OpV.s rfl) (fun hg => RdC.blk (by first | (with_reducible repeat (first | exact List.Mem.head _ | apply List.Mem.tail)); done | (repeat (first | exact List.Mem.head _ | apply List.Mem.tail)))) one3 rfl ?_
  refine D_callX (GC.some rfl rfl) fn77 (OpVs.cons (OpV.s rfl) (OpVs.cons OpV.c (OpVs.cons OpV.c (OpVs.nil)))) (by exact fun hg w F hF hM => s_l1In_walk w a0_3 0 12  _ (hy3 hg.2)) ?_
  refine D_and (cy := _) GC.none (OpV.t rfl) (OpV.s rfl) (fun h hb => ⟨h, hb⟩) ?_
  refine D_move GC.none (OpV.t rfl) ?_
  refine D_fieldAddr (GC.some rfl rfl) (OpV.t rfl) fld61_3 ?_
  refine D_load (GC.some rfl rfl) (OpV.s rfl) (fun hg => RdC.blk (by first | (with_reducible repeat (first | exact List.Mem.head _ | apply List.Mem.tail)); done | (repeat (first | exact List.Mem.head _ | apply List.Mem.tail)))) one3 rfl ?_
  refine D_callX (GC.some rfl rfl) fn77 (OpVs.cons (OpV.s rfl) (OpVs.cons OpV.c (OpVs.cons OpV.c (OpVs.nil)))) (by exact fun hg w F hF hM => s_l1In_walk w a0_4 0 1000000  _ (hy4 hg.2)) ?_
  refine D_and (cy := _) GC.none (OpV.t rfl) (OpV.s rfl) (fun h hb => ⟨h, hb⟩) ?_
  refine D_assign GC.none (OpV.t rfl) ?_
  refine DV_nil ?_
  refine Give_is rfl rfl ?_
  refine Give_drop rfl ?_
  refine Give_drop rfl ?_
  refine Give_drop rfl ?_
  refine Give_drop rfl ?_
  refine Give_drop rfl ?_
  refine Give_drop rfl ?_
  refine Give_drop rfl ?_
  refine Give_drop rfl ?_
  refine Give_drop rfl ?_
  refine Give_drop rfl ?_
  refine Give_drop rfl ?_
  refine Give_drop rfl ?_
  refine Give_drop rfl ?_
  refine Give_drop rfl ?_
  refine Give_drop rfl ?_
  refine Give_drop rfl ?_
  refine Give_drop rfl ?_
  refine Give_drop rfl ?_
  refine Give_drop rfl ?_
  refine Give_drop rfl ?_
  refine Give_nil ?_
  obtain rfl := Option.some.inj hp
  refine W_ret ?_
  refine res1 rfl (ResOK.tmp rfl) ⟨rfl, rfl⟩ (MSub.nil _)

noncomputable def s_RetryMay (a0 : D_Retry) (a1 : Int) : Option Bool :=
  Option.bind (s_RetryOk (a0.1, a0.2.1, a0.2.2.1, a0.2.2.2)) (fun y1 => some ((y1 && (decide (a0.2.2.1 < 12))) && (decide (a0.2.2.2 ≤ a1))))

theorem s_RetryMay_walk (w : World) (a0 : T_Retry) (a1 : Int) (h0 : GT.rd w [] a0) (r : Bool) (hp : s_RetryMay (GT.dat a0) a1 = some r) : Spec Try.prog 91 [.agg (GT.cells a0).toArray, .int .i64 a1].toArray w [] (IsV (.bool r)) := by
  obtain ⟨a0_1, a0_2, a0_3, a0_4⟩ := a0
  change Spec _ _ ([Value.agg #[.int .i64 a0_1, .int .i64 a0_2, .int .i64 a0_3, .int .i64 a0_4], .int .i64 a1] : List Value).toArray w [] _
  refine Spec.intro Try.func91 rfl Try.ntmps91 rfl ?_
  unfold s_RetryMay at hp
  try dsimp only [dat_pair, dat_int, dat_bool, dat_str, dat_ar] at hp
  refine W_seq ?_
  refine W_region ?_
  refine L_box rfl rfl (fun bk2 => ?_)
  refine L_assign rfl rfl ?_
  refine L_nil ?_
  refine W_seq ?_
  have ho := hp; clear hp; obtain ⟨y1, hy1, hp⟩ := bind_any ho; clear ho
  refine W_D0 [4] mix (by kernel_rfl) rfl ?_
  refine D_loadW GC.none (OpV.t rfl) (fun hg => RdC.blk (by first | (with_reducible repeat (first | exact List.Mem.head _ | apply List.Mem.tail)); done | (repeat (first | exact List.Mem.head _ | apply List.Mem.tail)))) (by exact agg61) ?_
  refine D_callX GC.none fn38 (OpVs.cons (OpV.t rfl) (OpVs.nil)) (by exact fun hg w F hF hM => s_RetryOk_walk w (a0_1, a0_2, a0_3, a0_4) (RdT.nowS (RdT.pair RdT.int (RdT.pair RdT.int (RdT.pair RdT.int RdT.int))) hF hM) _ hy1) ?_
  refine D_move GC.none (OpV.t rfl) ?_
  refine D_fieldAddr (GC.some rfl rfl) (OpV.t rfl) fld61_2 ?_
  refine D_load (GC.some rfl rfl) (OpV.s rfl) (fun hg => RdC.blk (by first | (with_reducible repeat (first | exact List.Mem.head _ | apply List.Mem.tail)); done | (repeat (first | exact List.Mem.head _ | apply List.Mem.tail)))) one3 rfl ?_
  refine D_bin (GC.some rfl rfl) (OpV.s rfl) OpV.c (fun hg => bv_lss) ?_
  refine D_and (cy := _) GC.none (OpV.t rfl) (OpV.s rfl) (fun h hb => ⟨h, hb⟩) ?_
  refine D_move GC.none (OpV.t rfl) ?_
  refine D_move (GC.some rfl rfl) (OpV.t rfl) ?_
  refine D_fieldAddr (GC.some rfl rfl) (OpV.t rfl) fld61_3 ?_
  refine D_load (GC.some rfl rfl) (OpV.s rfl) (fun hg => RdC.blk (by first | (with_reducible repeat (first | exact List.Mem.head _ | apply List.Mem.tail)); done | (repeat (first | exact List.Mem.head _ | apply List.Mem.tail)))) one3 rfl ?_
  refine D_bin (GC.some rfl rfl) (OpV.s rfl) (OpV.s rfl) (fun hg => bv_geq) ?_
  refine D_and (cy := _) GC.none (OpV.t rfl) (OpV.s rfl) (fun h hb => ⟨h, hb⟩) ?_
  refine D_assign GC.none (OpV.t rfl) ?_
  refine DV_nil ?_
  refine Give_is rfl rfl ?_
  refine Give_drop rfl ?_
  refine Give_drop rfl ?_
  refine Give_drop rfl ?_
  refine Give_drop rfl ?_
  refine Give_drop rfl ?_
  refine Give_drop rfl ?_
  refine Give_drop rfl ?_
  refine Give_drop rfl ?_
  refine Give_drop rfl ?_
  refine Give_drop rfl ?_
  refine Give_drop rfl ?_
  refine Give_drop rfl ?_
  refine Give_drop rfl ?_
  refine Give_nil ?_
  obtain rfl := Option.some.inj hp
  refine W_ret ?_
  refine res1 rfl (ResOK.tmp rfl) ⟨rfl, rfl⟩ (MSub.nil _)

noncomputable def s_RetryFail (a0 : D_Retry) (a1 : Int) : Option (D_Retry × Bool) :=
  Option.bind (s_RetryOk (a0.1, a0.2.1, a0.2.2.1, a0.2.2.2)) (fun y1 => cond (!y1) (some ((0, 0, 0, 0), false)) (whileP (fun s3 : Int × Int => cond ((decide (s3.2 < a0.2.2.1)) && (decide (s3.1 < a0.2.1))) (some (.inl ((IntKind.wrap .i64 (2 * s3.1), IntKind.wrap .i64 (s3.2 + 1))))) (Option.map .inr (jbind (cond (decide (a0.2.1 < s3.1)) (some (.inl (a0.2.1))) (some (.inl (s3.1)))) (fun s6 : Int => Option.bind (s_RetryMay (a0.1, a0.2.1, a0.2.2.1, a0.2.2.2) a1) (fun y8 => cond ((!y8) || (decide (IntKind.wrap .i64 (1000000 - s6) < a1))) (some ((a0.1, a0.2.1, a0.2.2.1, a0.2.2.2), false)) (some ((a0.1, a0.2.1, IntKind.wrap .i64 (a0.2.2.1 + 1), IntKind.wrap .i64 (a1 + s6)), true))))))) (a0.1, 0)))

theorem s_RetryFail_walk (w : World) (a0 : T_Retry) (a1 : Int) (h0 : GT.rd w [] a0) (r : D_Retry × Bool) (hp : s_RetryFail (GT.dat a0) a1 = some r) : Spec Try.prog 40 [.agg (GT.cells a0).toArray, .int .i64 a1].toArray w [] (fun v M => ∃ (x0 : T_Retry) (x1 : Bool), v = .tuple #[.agg (GT.cells x0).toArray, .bool x1] ∧ (GT.dat x0, GT.dat x1) = r ∧ M = []) := by
  obtain ⟨a0_1, a0_2, a0_3, a0_4⟩ := a0
  change Spec _ _ ([Value.agg #[.int .i64 a0_1, .int .i64 a0_2, .int .i64 a0_3, .int .i64 a0_4], .int .i64 a1] : List Value).toArray w [] _
  refine Spec.intro Try.func40 rfl Try.ntmps40 rfl ?_
  unfold s_RetryFail at hp
  try dsimp only [dat_pair, dat_int, dat_bool, dat_str, dat_ar] at hp
  refine W_seq ?_
  refine W_region ?_
  refine L_box rfl rfl (fun bk2 => ?_)
  refine L_alloc rfl zero61 (fun bk4 => ?_)
  refine L_assign rfl rfl ?_
  refine L_nil ?_
  refine W_seq ?_
  refine W_seq ?_
  refine W_region ?_
  refine L_loadW rfl rfl (RdC.blk (by first | (with_reducible repeat (first | exact List.Mem.head _ | apply List.Mem.tail)); done | (repeat (first | exact List.Mem.head _ | apply List.Mem.tail)))) (by exact agg61) ?_
  have ho := hp; clear hp; obtain ⟨y1, hy1, hp⟩ := bind_any ho; clear ho
  refine L_callX rfl fn38 rfl (by exact fun w hw => s_RetryOk_walk w (a0_1, a0_2, a0_3, a0_4) (RdT.now (RdT.pair RdT.int (RdT.pair RdT.int (RdT.pair RdT.int RdT.int))) hw) _ hy1) ?_
  refine L_not rfl rfl ?_
  refine L_nil ?_
  refine W_weaken (l' := [(1, _), (2, _), (4, _), (10, _)]) (Sub.cons rfl (Sub.cons rfl (Sub.cons rfl (Sub.cons rfl (Sub.nil _))))) (MSub.refl _) ?_
  refine W_cond rfl (fun hc2 => ?_) (fun hc2 => ?_)
  · skip
    replace hp := cond_t hc2 hp
    refine W_seq ?_
    refine W_region ?_
    refine L_build (xs := []) (cs := [.int .i64 0, .int .i64 0, .int .i64 0, .int .i64 0]) rfl rfl bld61 rfl ?_
    refine L_storeW rfl rfl (by first | (with_reducible repeat (first | exact Pick.here _ | apply Pick.there)); done | (repeat (first | exact Pick.here _ | apply Pick.there))) (by exact agg61) (by rfl) (by first | exact allOne rfl | exact fun v hv => GT.one _ v hv | (simp [Value.oneCell', TL.hdr, Value.cells]; done)) ?_
    refine L_assign rfl rfl ?_
    refine L_nil ?_
    obtain rfl := Option.some.inj hp
    refine W_ret ?_
    refine res2 rfl (ResOK.cell rfl (by first | (with_reducible repeat (first | exact List.Mem.head _ | apply List.Mem.tail)); done | (repeat (first | exact List.Mem.head _ | apply List.Mem.tail))) (by exact agg61)) (ResOK.tmp rfl) ⟨(0, 0, 0, 0), false, rfl, rfl, rfl⟩ (MSub.nil _)
  · skip
    replace hp := cond_f hc2 hp
    refine W_skip ?_
    refine W_seq ?_
    refine W_region ?_
    refine L_fieldAddr rfl rfl fld61_0 ?_
    refine L_load rfl rfl (RdC.blk (by first | (with_reducible repeat (first | exact List.Mem.head _ | apply List.Mem.tail)); done | (repeat (first | exact List.Mem.head _ | apply List.Mem.tail)))) one3 rfl ?_
    refine L_assign rfl rfl ?_
    refine L_nil ?_
    refine W_seq ?_
    refine W_seq ?_
    refine W_region ?_
    refine L_assign rfl rfl ?_
    refine L_nil ?_
    refine W_block ?_
    refine W_while (σ := Int × Int) GT.dat (fun ((v3_0, v3_1) : Int × Int) => [(6, .int .i64 v3_0), (7, .int .i64 v3_1)]) (fun ((v3_0, v3_1) : Int × Int) => []) [(1, _), (2, _), (4, _)] [blk bk2 _ _, blk bk4 _ _] (a0_1, 0) hp (Sub.cons rfl (Sub.cons rfl (Sub.cons rfl (Sub.cons rfl (Sub.cons rfl (Sub.nil _)))))) (MSub.cons (by first | (with_reducible repeat (first | exact Pick.here _ | apply Pick.there)); done | (repeat (first | exact Pick.here _ | apply Pick.there))) (MSub.cons (by first | (with_reducible repeat (first | exact Pick.here _ | apply Pick.there)); done | (repeat (first | exact Pick.here _ | apply Pick.there))) (MSub.nil _))) ?_
    clear hp
    rintro ⟨v3_0, v3_1⟩ x3 hp hx3
    try dsimp only [dat_pair, dat_int, dat_bool, dat_str, dat_ar] at hp
    refine W_weaken (l' := [(1, _), (2, _), (4, _), (6, _), (7, _)]) (Sub.cons rfl (Sub.cons rfl (Sub.cons rfl (Sub.cons rfl (Sub.cons rfl (Sub.nil _)))))) (M' := [_, _]) (MSub.cons (by first | (with_reducible repeat (first | exact Pick.here _ | apply Pick.there)); done | (repeat (first | exact Pick.here _ | apply Pick.there))) (MSub.cons (by first | (with_reducible repeat (first | exact Pick.here _ | apply Pick.there)); done | (repeat (first | exact Pick.here _ | apply Pick.there))) (MSub.nil _))) ?_
    refine W_seq ?_
    refine W_seq ?_
    refine W_D0 [23] mix (by kernel_rfl) rfl ?_
    refine D_move GC.none (OpV.t rfl) ?_
    refine D_fieldAddr GC.none (OpV.t rfl) fld61_2 ?_
    refine D_load GC.none (OpV.t rfl) (fun hg => RdC.blk (by first | (with_reducible repeat (first | exact List.Mem.head _ | apply List.Mem.tail)); done | (repeat (first | exact List.Mem.head _ | apply List.Mem.tail)))) one3 rfl ?_
    refine D_bin GC.none (OpV.t rfl) (OpV.t rfl) (fun hg => bv_lss) ?_
    refine D_move GC.none (OpV.t rfl) ?_
    refine D_move (GC.some rfl rfl) (OpV.t rfl) ?_
    refine D_fieldAddr (GC.some rfl rfl) (OpV.t rfl) fld61_1 ?_
    refine D_load (GC.some rfl rfl) (OpV.s rfl) (fun hg => RdC.blk (by first | (with_reducible repeat (first | exact List.Mem.head _ | apply List.Mem.tail)); done | (repeat (first | exact List.Mem.head _ | apply List.Mem.tail)))) one3 rfl ?_
    refine D_bin (GC.some rfl rfl) (OpV.s rfl) (OpV.s rfl) (fun hg => bv_lss) ?_
    refine D_and (cy := _) GC.none (OpV.t rfl) (OpV.s rfl) (fun h hb => ⟨h, hb⟩) ?_
    refine DV_nil ?_
    refine Give_is rfl rfl ?_
    refine Give_drop rfl ?_
    refine Give_drop rfl ?_
    refine Give_drop rfl ?_
    refine Give_drop rfl ?_
    refine Give_drop rfl ?_
    refine Give_drop rfl ?_
    refine Give_drop rfl ?_
    refine Give_drop rfl ?_
    refine Give_drop rfl ?_
    refine Give_nil ?_
    refine W_weaken (l' := [(1, _), (2, _), (4, _), (6, _), (7, _), (23, _)]) (Sub.cons rfl (Sub.cons rfl (Sub.cons rfl (Sub.cons rfl (Sub.cons rfl (Sub.cons rfl (Sub.nil _))))))) (MSub.refl _) ?_
    refine W_cond rfl (fun hc4 => ?_) (fun hc4 => ?_)
    · skip
      replace hp := cond_t hc4 hp
      refine W_skip ?_
      refine W_seq ?_
      refine W_block ?_
      refine W_region ?_
      refine L_move rfl rfl ?_
      refine L_binV rfl rfl rfl bv_mul ?_
      refine L_assign rfl rfl ?_
      refine L_nil ?_
      refine W_region ?_
      refine L_move rfl rfl ?_
      refine L_binV rfl rfl rfl bv_add ?_
      refine L_assign rfl rfl ?_
      refine L_nil ?_
      exact ⟨(IntKind.wrap .i64 (2 * v3_0), IntKind.wrap .i64 (v3_1 + 1)), (Sub.cons rfl (Sub.cons rfl (Sub.cons rfl (Sub.cons rfl (Sub.cons rfl (Sub.nil _)))))), (Arr.sub (MSub.cons (by first | (with_reducible repeat (first | exact Pick.here _ | apply Pick.there)); done | (repeat (first | exact Pick.here _ | apply Pick.there))) (MSub.cons (by first | (with_reducible repeat (first | exact Pick.here _ | apply Pick.there)); done | (repeat (first | exact Pick.here _ | apply Pick.there))) (MSub.nil _)))), some_eq hp⟩
    · skip
      replace hp := cond_f hc4 hp
      refine W_exit ?_
      have ho := hp; clear hp; obtain ⟨a5, hp, hx_a5⟩ := map_any ho; clear ho
      obtain rfl := hx3 _ hx_a5
      refine W_jn (σ := Int) GT.dat (fun (v6_0 : Int) => [(6, .int .i64 v6_0)]) (fun (v6_0 : Int) => []) [(1, .int .i64 a1), (2, .pointer (some ⟨bk2, 0, none⟩)), (4, .pointer (some ⟨bk4, 0, none⟩))] [blk bk2 [.int .i64 a0_1, .int .i64 a0_2, .int .i64 a0_3, .int .i64 a0_4] 61, blk bk4 [.int .i64 0, .int .i64 0, .int .i64 0, .int .i64 0] 61] hp ?_ ?_
      · skip
        clear hp
        intro x6 hp hx6
        refine W_seq ?_
        refine W_region ?_
        refine L_move rfl rfl ?_
        refine L_fieldAddr rfl rfl fld61_1 ?_
        refine L_load rfl rfl (RdC.blk (by first | (with_reducible repeat (first | exact List.Mem.head _ | apply List.Mem.tail)); done | (repeat (first | exact List.Mem.head _ | apply List.Mem.tail)))) one3 rfl ?_
        refine L_binV rfl rfl rfl bv_gtr ?_
        refine L_nil ?_
        refine W_weaken (l' := [(1, _), (2, _), (4, _), (6, _), (31, _)]) (Sub.cons rfl (Sub.cons rfl (Sub.cons rfl (Sub.cons rfl (Sub.cons rfl (Sub.nil _)))))) (MSub.refl _) ?_
        refine W_cond rfl (fun hc7 => ?_) (fun hc7 => ?_)
        · skip
          replace hp := cond_t hc7 hp
          refine W_region ?_
          refine L_fieldAddr rfl rfl fld61_1 ?_
          refine L_load rfl rfl (RdC.blk (by first | (with_reducible repeat (first | exact List.Mem.head _ | apply List.Mem.tail)); done | (repeat (first | exact List.Mem.head _ | apply List.Mem.tail)))) one3 rfl ?_
          refine L_assign rfl rfl ?_
          refine L_nil ?_
          exact ⟨a0_2, (Sub.cons rfl (Sub.cons rfl (Sub.cons rfl (Sub.cons rfl (Sub.nil _))))), (Arr.sub (MSub.cons (by first | (with_reducible repeat (first | exact Pick.here _ | apply Pick.there)); done | (repeat (first | exact Pick.here _ | apply Pick.there))) (MSub.cons (by first | (with_reducible repeat (first | exact Pick.here _ | apply Pick.there)); done | (repeat (first | exact Pick.here _ | apply Pick.there))) (MSub.nil _)))), some_eq hp⟩
        · skip
          replace hp := cond_f hc7 hp
          refine W_skip ?_
          exact ⟨v3_0, (Sub.cons rfl (Sub.cons rfl (Sub.cons rfl (Sub.cons rfl (Sub.nil _))))), (Arr.sub (MSub.cons (by first | (with_reducible repeat (first | exact Pick.here _ | apply Pick.there)); done | (repeat (first | exact Pick.here _ | apply Pick.there))) (MSub.cons (by first | (with_reducible repeat (first | exact Pick.here _ | apply Pick.there)); done | (repeat (first | exact Pick.here _ | apply Pick.there))) (MSub.nil _)))), some_eq hp⟩
      · skip
        clear hp
        rintro v6_0 hp
        try dsimp only [dat_pair, dat_int, dat_bool, dat_str, dat_ar] at hp
        refine W_weaken (l' := [(1, _), (2, _), (4, _), (6, _)]) (Sub.cons rfl (Sub.cons rfl (Sub.cons rfl (Sub.cons rfl (Sub.nil _))))) (M' := [_, _]) (MSub.cons (by first | (with_reducible repeat (first | exact Pick.here _ | apply Pick.there)); done | (repeat (first | exact Pick.here _ | apply Pick.there))) (MSub.cons (by first | (with_reducible repeat (first | exact Pick.here _ | apply Pick.there)); done | (repeat (first | exact Pick.here _ | apply Pick.there))) (MSub.nil _))) ?_
        refine W_seq ?_
        refine W_seq ?_
        have ho := hp; clear hp; obtain ⟨y8, hy8, hp⟩ := bind_any ho; clear ho
        refine W_D0 [43] mix (by kernel_rfl) rfl ?_
        refine D_loadW GC.none (OpV.t rfl) (fun hg => RdC.blk (by first | (with_reducible repeat (first | exact List.Mem.head _ | apply List.Mem.tail)); done | (repeat (first | exact List.Mem.head _ | apply List.Mem.tail)))) (by exact agg61) ?_
        refine D_move GC.none (OpV.t rfl) ?_
        refine D_callX GC.none fn91 (OpVs.cons (OpV.t rfl) (OpVs.cons (OpV.t rfl) (OpVs.nil))) (by exact fun hg w F hF hM => s_RetryMay_walk w (a0_1, a0_2, a0_3, a0_4) a1 (RdT.nowS (RdT.pair RdT.int (RdT.pair RdT.int (RdT.pair RdT.int RdT.int))) hF hM) _ hy8) ?_
        refine D_not GC.none (OpV.t rfl) ?_
        refine D_move GC.none (OpV.t rfl) ?_
        refine D_move (GC.some rfl rfl) (OpV.t rfl) ?_
        refine D_move (GC.some rfl rfl) (OpV.t rfl) ?_
        refine D_bin (GC.some rfl rfl) OpV.c (OpV.s rfl) (fun hg => bv_sub) ?_
        refine D_bin (GC.some rfl rfl) (OpV.s rfl) (OpV.s rfl) (fun hg => bv_gtr) ?_
        refine D_or (cy := _) GC.none (OpV.t rfl) (OpV.s rfl) (fun h hb => ⟨h, hb⟩) ?_
        refine DV_nil ?_
        refine Give_is rfl rfl ?_
        refine Give_drop rfl ?_
        refine Give_drop rfl ?_
        refine Give_drop rfl ?_
        refine Give_drop rfl ?_
        refine Give_drop rfl ?_
        refine Give_drop rfl ?_
        refine Give_drop rfl ?_
        refine Give_drop rfl ?_
        refine Give_drop rfl ?_
        refine Give_nil ?_
        refine W_weaken (l' := [(1, _), (2, _), (4, _), (6, _), (43, _)]) (Sub.cons rfl (Sub.cons rfl (Sub.cons rfl (Sub.cons rfl (Sub.cons rfl (Sub.nil _)))))) (MSub.refl _) ?_
        refine W_cond rfl (fun hc9 => ?_) (fun hc9 => ?_)
        · skip
          replace hp := cond_t hc9 hp
          refine W_seq ?_
          refine W_region ?_
          refine L_loadW rfl rfl (RdC.blk (by first | (with_reducible repeat (first | exact List.Mem.head _ | apply List.Mem.tail)); done | (repeat (first | exact List.Mem.head _ | apply List.Mem.tail)))) (by exact agg61) ?_
          refine L_storeW rfl rfl (by first | (with_reducible repeat (first | exact Pick.here _ | apply Pick.there)); done | (repeat (first | exact Pick.here _ | apply Pick.there))) (by exact agg61) (by rfl) (by first | exact allOne rfl | exact fun v hv => GT.one _ v hv | (simp [Value.oneCell', TL.hdr, Value.cells]; done)) ?_
          refine L_assign rfl rfl ?_
          refine L_nil ?_
          obtain rfl := Option.some.inj hp
          refine W_ret ?_
          refine res2 rfl (ResOK.cell rfl (by first | (with_reducible repeat (first | exact List.Mem.head _ | apply List.Mem.tail)); done | (repeat (first | exact List.Mem.head _ | apply List.Mem.tail))) (by exact agg61)) (ResOK.tmp rfl) ⟨(a0_1, a0_2, a0_3, a0_4), false, rfl, rfl, rfl⟩ (MSub.nil _)
        · skip
          replace hp := cond_f hc9 hp
          refine W_skip ?_
          refine W_seq ?_
          refine W_region ?_
          refine L_fieldAddr rfl rfl fld61_2 ?_
          refine L_load rfl rfl (RdC.blk (by first | (with_reducible repeat (first | exact List.Mem.head _ | apply List.Mem.tail)); done | (repeat (first | exact List.Mem.head _ | apply List.Mem.tail)))) one3 rfl ?_
          refine L_binV rfl rfl rfl bv_add ?_
          refine L_fieldAddr rfl rfl fld61_2 ?_
          refine L_store rfl rfl (by first | (with_reducible repeat (first | exact Pick.here _ | apply Pick.there)); done | (repeat (first | exact Pick.here _ | apply Pick.there))) one3 rfl rfl ?_
          refine L_nil ?_
          refine W_seq ?_
          refine W_region ?_
          refine L_move rfl rfl ?_
          refine L_move rfl rfl ?_
          refine L_binV rfl rfl rfl bv_add ?_
          refine L_fieldAddr rfl rfl fld61_3 ?_
          refine L_store rfl rfl (by first | (with_reducible repeat (first | exact Pick.here _ | apply Pick.there)); done | (repeat (first | exact Pick.here _ | apply Pick.there))) one3 rfl rfl ?_
          refine L_nil ?_
          refine W_seq ?_
          refine W_region ?_
          refine L_loadW rfl rfl (RdC.blk (by first | (with_reducible repeat (first | exact List.Mem.head _ | apply List.Mem.tail)); done | (repeat (first | exact List.Mem.head _ | apply List.Mem.tail)))) (by exact agg61) ?_
          refine L_storeW rfl rfl (by first | (with_reducible repeat (first | exact Pick.here _ | apply Pick.there)); done | (repeat (first | exact Pick.here _ | apply Pick.there))) (by exact agg61) (by rfl) (by first | exact allOne rfl | exact fun v hv => GT.one _ v hv | (simp [Value.oneCell', TL.hdr, Value.cells]; done)) ?_
          refine L_assign rfl rfl ?_
          refine L_nil ?_
          obtain rfl := Option.some.inj hp
          refine W_ret ?_
          refine res2 rfl (ResOK.cell rfl (by first | (with_reducible repeat (first | exact List.Mem.head _ | apply List.Mem.tail)); done | (repeat (first | exact List.Mem.head _ | apply List.Mem.tail))) (by exact agg61)) (ResOK.tmp rfl) ⟨(a0_1, a0_2, IntKind.wrap .i64 (a0_3 + 1), IntKind.wrap .i64 (a1 + v6_0)), true, rfl, rfl, rfl⟩ (MSub.nil _)

noncomputable def s_l24Some (a0 : D_l1Cur) : Option (D_Retry × D_l1Cur) :=
  Option.bind (s_l1Below (a0.1, a0.2.1, a0.2.2) 5) (fun y1 => Option.bind (s_l1Below (y1.2.1, y1.2.2.1, y1.2.2.2) 90) (fun y2 => Option.bind (s_l1Below (y2.2.1, y2.2.2.1, y2.2.2.2) 14) (fun y3 => whileP (fun s4 : Int × Int × Int × Int × Int × Int × Int => cond (decide (0 < s4.1)) (Option.bind (s_l1Below (y3.2.1, s4.2.1, s4.2.2.1) 5) (fun y6 => Option.bind (s_RetryFail (s4.2.2.2.1, s4.2.2.2.2.1, s4.2.2.2.2.2.1, s4.2.2.2.2.2.2) (IntKind.wrap .i64 (s4.2.2.2.2.2.2 + y6.1))) (fun y7 => some (.inl ((IntKind.wrap .i64 (s4.1 - 1), y6.2.2.1, y6.2.2.2, y7.1.1, y7.1.2.1, y7.1.2.2.1, y7.1.2.2.2)))))) (Option.map .inr (Option.bind (s_l1Once (y3.2.1, s4.2.1, s4.2.2.1) 10) (fun y9 => cond y9.1 (Option.bind (s_l1Below (y9.2.1, y9.2.2.1, y9.2.2.2) 4) (fun y11 => cond (decide (y11.1 = 0)) (Option.bind (some ([0, 100, 101] : List Int)) (fun y13 => Option.bind (s_l1PickInt (y11.2.1, y11.2.2.1, y11.2.2.2) y13) (fun y15 => some ((y15.1, s4.2.2.2.2.1, s4.2.2.2.2.2.1, s4.2.2.2.2.2.2), (y15.2.1, y15.2.2.1, y15.2.2.2))))) (cond (decide (y11.1 = 1)) (Option.bind (some ([0, 10000, 10001] : List Int)) (fun y17 => Option.bind (s_l1PickInt (y11.2.1, y11.2.2.1, y11.2.2.2) y17) (fun y19 => some ((s4.2.2.2.1, y19.1, s4.2.2.2.2.2.1, s4.2.2.2.2.2.2), (y19.2.1, y19.2.2.1, y19.2.2.2))))) (cond (decide (y11.1 = 2)) (Option.bind (some ([(-1), 11, 12, 13] : List Int)) (fun y21 => Option.bind (s_l1PickInt (y11.2.1, y11.2.2.1, y11.2.2.2) y21) (fun y23 => some ((s4.2.2.2.1, s4.2.2.2.2.1, y23.1, s4.2.2.2.2.2.2), (y23.2.1, y23.2.2.1, y23.2.2.2))))) (Option.bind (some ([(-1), 1000000, 1000001] : List Int)) (fun y24 => Option.bind (s_l1PickInt (y11.2.1, y11.2.2.1, y11.2.2.2) y24) (fun y26 => some ((s4.2.2.2.1, s4.2.2.2.2.1, s4.2.2.2.2.2.1, y26.1), (y26.2.1, y26.2.2.1, y26.2.2.2))))))))) (some ((s4.2.2.2.1, s4.2.2.2.2.1, s4.2.2.2.2.2.1, s4.2.2.2.2.2.2), (y9.2.1, y9.2.2.1, y9.2.2.2))))))) (y3.1, y3.2.2.1, y3.2.2.2, IntKind.wrap .i64 (1 + y1.1), IntKind.wrap .i64 (10 + y2.1), 0, 0))))

theorem s_l24Some_walk (w : World) (b0_ : Nat) (a0 : T_l1Cur) (h0_0 : GT.rd w (fps [blk b0_ (GT.cells a0) 144]) a0.1) (r : D_Retry × D_l1Cur) (hp : s_l24Some (GT.dat a0) = some r) : Spec Try.prog 88 [Value.pointer (some ⟨b0_, 0, none⟩)].toArray w [blk b0_ (GT.cells a0) 144] (fun v M => ∃ (x0 : T_Retry) (y0 : T_l1Cur), v = .agg (GT.cells x0).toArray ∧ (GT.dat x0, GT.dat y0) = r ∧ M = [blk b0_ (GT.cells y0) 144] ∧ y0.1 = a0.1) := by
  obtain ⟨a0_1, a0_2, a0_3⟩ := a0
  change Spec _ _ ([Value.pointer (some ⟨b0_, 0, none⟩)] : List Value).toArray w _ _
  refine Spec.intro Try.func88 rfl Try.ntmps88 rfl ?_
  unfold s_l24Some at hp
  try dsimp only [dat_pair, dat_int, dat_bool, dat_str, dat_ar] at hp
  refine W_seq ?_
  refine W_region ?_
  refine L_alloc rfl zero61 (fun bk2 => ?_)
  refine L_nil ?_
  refine W_seq ?_
  refine W_region ?_
  refine L_move rfl rfl ?_
  have ho := hp; clear hp; obtain ⟨y1, hy1, hp⟩ := bind_any ho; clear ho
  refine L_callM [blk b0_ _ _] _ rfl fn59 rfl (perm_cons (by first | (with_reducible repeat (first | exact Pick.here _ | apply Pick.there)); done | (repeat (first | exact Pick.here _ | apply Pick.there))) (perm_nil_left _)) (by exact fun w hw => s_l1Below_walk w b0_ (a0_1, a0_2, a0_3) 5 ((RdX.old h0_0) w hw) _ hy1) ?_
  rintro vy1 My1 ⟨y1x0, y1y0, hvy1, hdy1, rfl, hey1_0⟩
  subst hvy1
  subst hdy1
  obtain ⟨y1y0_1, y1y0_2, y1y0_3⟩ := y1y0
  obtain rfl : a0_1 = y1y0_1 := hey1_0.symm
  simp only [cells_pair, cells_int, cells_bool, cells_str, cells_TL, List.cons_append, List.nil_append]
  try dsimp only [dat_pair, dat_int, dat_bool, dat_str, dat_ar] at hp
  refine L_binV rfl rfl rfl bv_add ?_
  refine L_move rfl rfl ?_
  have ho := hp; clear hp; obtain ⟨y2, hy2, hp⟩ := bind_any ho; clear ho
  refine L_callM [blk b0_ _ _] _ rfl fn59 rfl (perm_cons (by first | (with_reducible repeat (first | exact Pick.here _ | apply Pick.there)); done | (repeat (first | exact Pick.here _ | apply Pick.there))) (perm_nil_left _)) (by exact fun w hw => s_l1Below_walk w b0_ (a0_1, y1y0_2, y1y0_3) 90 ((RdX.old h0_0) w hw) _ hy2) ?_
  rintro vy2 My2 ⟨y2x0, y2y0, hvy2, hdy2, rfl, hey2_0⟩
  subst hvy2
  subst hdy2
  obtain ⟨y2y0_1, y2y0_2, y2y0_3⟩ := y2y0
  obtain rfl : a0_1 = y2y0_1 := hey2_0.symm
  simp only [cells_pair, cells_int, cells_bool, cells_str, cells_TL, List.cons_append, List.nil_append]
  try dsimp only [dat_pair, dat_int, dat_bool, dat_str, dat_ar] at hp
  refine L_binV rfl rfl rfl bv_add ?_
  refine L_build (xs := [(0, .tmp 9), (1, .tmp 12)]) (cs := [.int .i64 (IntKind.wrap .i64 (1 + y1x0)), .int .i64 (IntKind.wrap .i64 (10 + y2x0)), .int .i64 0, .int .i64 0]) rfl rfl bld61 rfl ?_
  refine L_alloc rfl zero61 (fun bk3 => ?_)
  refine L_storeW rfl rfl (by first | (with_reducible repeat (first | exact Pick.here _ | apply Pick.there)); done | (repeat (first | exact Pick.here _ | apply Pick.there))) (by exact agg61) (by rfl) (by first | exact allOne rfl | exact fun v hv => GT.one _ v hv | (simp [Value.oneCell', TL.hdr, Value.cells]; done)) ?_
  refine L_nil ?_
  refine W_seq ?_
  refine W_seq ?_
  refine W_region ?_
  refine L_move rfl rfl ?_
  have ho := hp; clear hp; obtain ⟨y3, hy3, hp⟩ := bind_any ho; clear ho
  refine L_callM [blk b0_ _ _] _ rfl fn59 rfl (perm_cons (by first | (with_reducible repeat (first | exact Pick.here _ | apply Pick.there)); done | (repeat (first | exact Pick.here _ | apply Pick.there))) (perm_nil_left _)) (by exact fun w hw => s_l1Below_walk w b0_ (a0_1, y2y0_2, y2y0_3) 14 ((RdX.old h0_0) w hw) _ hy3) ?_
  rintro vy3 My3 ⟨y3x0, y3y0, hvy3, hdy3, rfl, hey3_0⟩
  subst hvy3
  subst hdy3
  obtain ⟨y3y0_1, y3y0_2, y3y0_3⟩ := y3y0
  obtain rfl : a0_1 = y3y0_1 := hey3_0.symm
  simp only [cells_pair, cells_int, cells_bool, cells_str, cells_TL, List.cons_append, List.nil_append]
  try dsimp only [dat_pair, dat_int, dat_bool, dat_str, dat_ar] at hp
  refine L_assign rfl rfl ?_
  refine L_nil ?_
  refine W_block ?_
  refine W_while (σ := Int × Int × Int × Int × Int × Int × Int) GT.dat (fun ((v4_0, v4_1, v4_2, v4_3, v4_4, v4_5, v4_6) : Int × Int × Int × Int × Int × Int × Int) => [(4, .int .i64 v4_0)]) (fun ((v4_0, v4_1, v4_2, v4_3, v4_4, v4_5, v4_6) : Int × Int × Int × Int × Int × Int × Int) => [blk b0_ [(TL.hdr a0_1), .int .i64 v4_1, .int .i64 v4_2] 144, blk bk3 [.int .i64 v4_3, .int .i64 v4_4, .int .i64 v4_5, .int .i64 v4_6] 61]) [(0, _), (2, _), (3, _)] [blk bk2 _ _] (y3x0, y3y0_2, y3y0_3, IntKind.wrap .i64 (1 + y1x0), IntKind.wrap .i64 (10 + y2x0), 0, 0) hp (Sub.cons rfl (Sub.cons rfl (Sub.cons rfl (Sub.cons rfl (Sub.nil _))))) (MSub.cons (by first | (with_reducible repeat (first | exact Pick.here _ | apply Pick.there)); done | (repeat (first | exact Pick.here _ | apply Pick.there))) (MSub.cons (by first | (with_reducible repeat (first | exact Pick.here _ | apply Pick.there)); done | (repeat (first | exact Pick.here _ | apply Pick.there))) (MSub.cons (by first | (with_reducible repeat (first | exact Pick.here _ | apply Pick.there)); done | (repeat (first | exact Pick.here _ | apply Pick.there))) (MSub.nil _)))) ?_
  clear hp
  rintro ⟨v4_0, v4_1, v4_2, v4_3, v4_4, v4_5, v4_6⟩ x4 hp hx4
  try dsimp only [dat_pair, dat_int, dat_bool, dat_str, dat_ar] at hp
  refine W_weaken (l' := [(0, _), (2, _), (3, _), (4, _)]) (Sub.cons rfl (Sub.cons rfl (Sub.cons rfl (Sub.cons rfl (Sub.nil _))))) (M' := [_, _, _]) (MSub.cons (by first | (with_reducible repeat (first | exact Pick.here _ | apply Pick.there)); done | (repeat (first | exact Pick.here _ | apply Pick.there))) (MSub.cons (by first | (with_reducible repeat (first | exact Pick.here _ | apply Pick.there)); done | (repeat (first | exact Pick.here _ | apply Pick.there))) (MSub.cons (by first | (with_reducible repeat (first | exact Pick.here _ | apply Pick.there)); done | (repeat (first | exact Pick.here _ | apply Pick.there))) (MSub.nil _)))) ?_
  refine W_seq ?_
  refine W_seq ?_
  refine W_region ?_
  refine L_move rfl rfl ?_
  refine L_binV rfl rfl rfl bv_gtr ?_
  refine L_nil ?_
  refine W_weaken (l' := [(0, _), (2, _), (3, _), (4, _), (17, _)]) (Sub.cons rfl (Sub.cons rfl (Sub.cons rfl (Sub.cons rfl (Sub.cons rfl (Sub.nil _)))))) (MSub.refl _) ?_
  refine W_cond rfl (fun hc5 => ?_) (fun hc5 => ?_)
  · skip
    replace hp := cond_t hc5 hp
    refine W_skip ?_
    refine W_seq ?_
    refine W_block ?_
    refine W_seq ?_
    have ho := hp; clear hp; obtain ⟨y6, hy6, hp⟩ := bind_any ho; clear ho
    have ho := hp; clear hp; obtain ⟨y7, hy7, hp⟩ := bind_any ho; clear ho
    refine W_DS (pre := [_, _, _, _, _, _, _, _, _, _, _, _, _]) (suf := []) [5, 25] [blk b0_ _ 144] _ (perm_cons (by first | (with_reducible repeat (first | exact Pick.here _ | apply Pick.there)); done | (repeat (first | exact Pick.here _ | apply Pick.there))) (perm_nil_left _)) mix (by kernel_rfl) (by kernel_rfl) rfl ?_
    refine D_loadW GC.none (OpV.t rfl) (fun hg => RdC.blk (by first | (with_reducible repeat (first | exact List.Mem.head _ | apply List.Mem.tail)); done | (repeat (first | exact List.Mem.head _ | apply List.Mem.tail)))) (by exact agg61) ?_
    refine D_fieldAddr GC.none (OpV.t rfl) fld61_3 ?_
    refine D_load GC.none (OpV.t rfl) (fun hg => RdC.blk (by first | (with_reducible repeat (first | exact List.Mem.head _ | apply List.Mem.tail)); done | (repeat (first | exact List.Mem.head _ | apply List.Mem.tail)))) one3 rfl ?_
    refine D_move GC.none (OpV.t rfl) ?_
    refine D_callM (fun v M => ∃ (x0 : Int) (y0 : T_l1Cur), v = .int .i64 x0 ∧ (GT.dat x0, GT.dat y0) = y6 ∧ M = [blk b0_ (GT.cells y0) 144] ∧ y0.1 = a0_1) [blk b0_ _ 144] (perm_cons (by first | (with_reducible repeat (first | exact Pick.here _ | apply Pick.there)); done | (repeat (first | exact Pick.here _ | apply Pick.there))) (perm_nil_left _)) fn59 (OpVs.cons (OpV.t rfl) (OpVs.cons OpV.c (OpVs.nil))) (by exact fun w F hw hM => s_l1Below_walk w b0_ (a0_1, v4_1, v4_2) 5 ((RdX.old h0_0) w hw) _ hy6) ?_
    refine D_bin GC.none (OpV.t rfl) (show OpV _ _ _ (.int .i64 y6.1) from ⟨_, rfl, fun u M h hc => by obtain ⟨x0, z0, hv, hd, _⟩ := h; subst hd; exact hv⟩) (fun hg => bv_add) ?_
    refine D_callX (x := .tuple #[.agg #[.int .i64 y7.1.1, .int .i64 y7.1.2.1, .int .i64 y7.1.2.2.1, .int .i64 y7.1.2.2.2], .bool y7.2]) GC.none fn40 (OpVs.cons (OpV.t rfl) (OpVs.cons (OpV.t rfl) (OpVs.nil))) (by exact fun hg w F hF hM => ((s_RetryFail_walk w (v4_3, v4_4, v4_5, v4_6) (IntKind.wrap .i64 (v4_6 + y6.1)) (RdT.nowS (RdT.pair RdT.int (RdT.pair RdT.int (RdT.pair RdT.int RdT.int))) hF hM) _ hy7).mono fun v M ⟨x0, x1, hv, hd, hM⟩ => by obtain ⟨x0_1, x0_2, x0_3, x0_4⟩ := x0; subst hv; subst hd; subst hM; exact ⟨rfl, rfl⟩)) ?_
    refine D_move GC.none (OpV.t rfl) ?_
    refine D_extract GC.none (OpV.t rfl) rfl ?_
    refine D_extract GC.none (OpV.t rfl) rfl ?_
    refine D_alloc zero61 ?_
    refine D_storeKF (p := 5) rfl (OpV.t rfl) (by exact agg61) rfl (by first | exact allOne rfl | exact fun v hv => GT.one _ v hv | (simp [Value.oneCell', TL.hdr, Value.cells]; done)) (by kernel_rfl) ?_
    refine D_assign GC.none (OpV.t rfl) ?_
    refine DV_nil ?_
    refine Give_drop rfl ?_
    refine Give_R rfl rfl ?_
    rintro vr5 Mr5 ⟨bk5, hvr5, rfl⟩
    subst hvr5
    simp only [List.cons_append, List.nil_append]
    refine Give_drop rfl ?_
    refine Give_drop rfl ?_
    refine Give_drop rfl ?_
    refine Give_drop rfl ?_
    refine Give_drop rfl ?_
    refine Give_drop rfl ?_
    refine Give_R rfl rfl ?_
    rintro vy6 My6 ⟨y6x0, y6y0, hvy6, hdy6, rfl, hey6_0⟩
    subst hvy6
    subst hdy6
    obtain ⟨y6y0_1, y6y0_2, y6y0_3⟩ := y6y0
    obtain rfl : a0_1 = y6y0_1 := hey6_0.symm
    refine Give_drop rfl ?_
    refine Give_drop rfl ?_
    refine Give_drop rfl ?_
    refine Give_drop rfl ?_
    refine Give_nil ?_
    simp only [cells_pair, cells_int, cells_bool, cells_str, cells_TL, List.cons_append, List.nil_append]
    try dsimp only [dat_pair, dat_int, dat_bool, dat_str, dat_ar] at hp
    refine L_nil ?_
    refine W_region ?_
    refine L_loadW rfl rfl (RdC.blk (by first | (with_reducible repeat (first | exact List.Mem.head _ | apply List.Mem.tail)); done | (repeat (first | exact List.Mem.head _ | apply List.Mem.tail)))) (by exact agg61) ?_
    refine L_storeW rfl rfl (by first | (with_reducible repeat (first | exact Pick.here _ | apply Pick.there)); done | (repeat (first | exact Pick.here _ | apply Pick.there))) (by exact agg61) (by rfl) (by first | exact allOne rfl | exact fun v hv => GT.one _ v hv | (simp [Value.oneCell', TL.hdr, Value.cells]; done)) ?_
    refine L_nil ?_
    refine W_region ?_
    refine L_move rfl rfl ?_
    refine L_binV rfl rfl rfl bv_sub ?_
    refine L_assign rfl rfl ?_
    refine L_nil ?_
    exact ⟨(IntKind.wrap .i64 (v4_0 - 1), y6y0_2, y6y0_3, y7.1.1, y7.1.2.1, y7.1.2.2.1, y7.1.2.2.2), (Sub.cons rfl (Sub.cons rfl (Sub.cons rfl (Sub.cons rfl (Sub.nil _))))), (Arr.sub (MSub.cons (by first | (with_reducible repeat (first | exact Pick.here _ | apply Pick.there)); done | (repeat (first | exact Pick.here _ | apply Pick.there))) (MSub.cons (by first | (with_reducible repeat (first | exact Pick.here _ | apply Pick.there)); done | (repeat (first | exact Pick.here _ | apply Pick.there))) (MSub.cons (by first | (with_reducible repeat (first | exact Pick.here _ | apply Pick.there)); done | (repeat (first | exact Pick.here _ | apply Pick.there))) (MSub.nil _))))), some_eq hp⟩
  · skip
    replace hp := cond_f hc5 hp
    refine W_exit ?_
    have ho := hp; clear hp; obtain ⟨a8, hp, hx_a8⟩ := map_any ho; clear ho
    obtain rfl := hx4 _ hx_a8
    refine W_seq ?_
    refine W_seq ?_
    refine W_region ?_
    refine L_move rfl rfl ?_
    have ho := hp; clear hp; obtain ⟨y9, hy9, hp⟩ := bind_any ho; clear ho
    refine L_callM [blk b0_ _ _] _ rfl fn89 rfl (perm_cons (by first | (with_reducible repeat (first | exact Pick.here _ | apply Pick.there)); done | (repeat (first | exact Pick.here _ | apply Pick.there))) (perm_nil_left _)) (by exact fun w hw => s_l1Once_walk w b0_ (a0_1, v4_1, v4_2) 10 ((RdX.old h0_0) w hw) _ hy9) ?_
    rintro vy9 My9 ⟨y9x0, y9y0, hvy9, hdy9, rfl, hey9_0⟩
    subst hvy9
    subst hdy9
    obtain ⟨y9y0_1, y9y0_2, y9y0_3⟩ := y9y0
    obtain rfl : a0_1 = y9y0_1 := hey9_0.symm
    simp only [cells_pair, cells_int, cells_bool, cells_str, cells_TL, List.cons_append, List.nil_append]
    try dsimp only [dat_pair, dat_int, dat_bool, dat_str, dat_ar] at hp
    refine L_nil ?_
    refine W_weaken (l' := [(0, _), (2, _), (3, _), (32, _)]) (Sub.cons rfl (Sub.cons rfl (Sub.cons rfl (Sub.cons rfl (Sub.nil _))))) (MSub.refl _) ?_
    refine W_cond rfl (fun hc10 => ?_) (fun hc10 => ?_)
    · skip
      replace hp := cond_t hc10 hp
      refine W_seq ?_
      refine W_region ?_
      refine L_move rfl rfl ?_
      have ho := hp; clear hp; obtain ⟨y11, hy11, hp⟩ := bind_any ho; clear ho
      refine L_callM [blk b0_ _ _] _ rfl fn59 rfl (perm_cons (by first | (with_reducible repeat (first | exact Pick.here _ | apply Pick.there)); done | (repeat (first | exact Pick.here _ | apply Pick.there))) (perm_nil_left _)) (by exact fun w hw => s_l1Below_walk w b0_ (a0_1, y9y0_2, y9y0_3) 4 ((RdX.old h0_0) w hw) _ hy11) ?_
      rintro vy11 My11 ⟨y11x0, y11y0, hvy11, hdy11, rfl, hey11_0⟩
      subst hvy11
      subst hdy11
      obtain ⟨y11y0_1, y11y0_2, y11y0_3⟩ := y11y0
      obtain rfl : a0_1 = y11y0_1 := hey11_0.symm
      simp only [cells_pair, cells_int, cells_bool, cells_str, cells_TL, List.cons_append, List.nil_append]
      try dsimp only [dat_pair, dat_int, dat_bool, dat_str, dat_ar] at hp
      refine L_nil ?_
      refine W_block ?_
      refine W_seq ?_
      refine W_region ?_
      refine L_binV rfl rfl rfl bv_eql ?_
      refine L_assign rfl rfl ?_
      refine L_nil ?_
      refine W_weaken (l' := [(0, _), (2, _), (3, _), (34, _), (39, _)]) (Sub.cons rfl (Sub.cons rfl (Sub.cons rfl (Sub.cons rfl (Sub.cons rfl (Sub.nil _)))))) (MSub.refl _) ?_
      refine W_cond rfl (fun hc12 => ?_) (fun hc12 => ?_)
      · skip
        replace hp := cond_t hc12 hp
        refine W_region ?_
        refine L_move rfl rfl ?_
        have ho := hp; clear hp; obtain ⟨y13, hy13, hp⟩ := bind_any ho; clear ho
        refine L_bsN ([0, 100, 101] : List Int) (xs := [(0, .const (.int .i64 0)), (1, .const (.int .i64 100)), (2, .const (.int .i64 101))]) rfl rfl el34 rfl rfl rfl rfl rfl rfl rfl hy13 (fun X14 hdX14 => ?_)
        subst hdX14
        have ho := hp; clear hp; obtain ⟨y15, hy15, hp⟩ := bind_any ho; clear ho
        refine L_callM [blk b0_ _ _] _ rfl fn90 rfl (perm_cons (by first | (with_reducible repeat (first | exact Pick.here _ | apply Pick.there)); done | (repeat (first | exact Pick.here _ | apply Pick.there))) (perm_nil_left _)) (by exact fun w hw => s_l1PickInt_walk w b0_ (a0_1, y11y0_2, y11y0_3) X14 ((RdX.tree (by first | (with_reducible repeat (first | exact List.Mem.head _ | apply List.Mem.tail)); done | (repeat (first | exact List.Mem.head _ | apply List.Mem.tail)))) w hw) ((RdX.old h0_0) w hw) _ hy15) ?_
        rintro vy15 My15 ⟨y15x0, y15y0, hvy15, hdy15, rfl, hey15_0⟩
        subst hvy15
        subst hdy15
        obtain ⟨y15y0_1, y15y0_2, y15y0_3⟩ := y15y0
        obtain rfl : a0_1 = y15y0_1 := hey15_0.symm
        simp only [cells_pair, cells_int, cells_bool, cells_str, cells_TL, List.cons_append, List.nil_append]
        try dsimp only [dat_pair, dat_int, dat_bool, dat_str, dat_ar] at hp
        refine L_fieldAddr rfl rfl fld61_0 ?_
        refine L_store rfl rfl (by first | (with_reducible repeat (first | exact Pick.here _ | apply Pick.there)); done | (repeat (first | exact Pick.here _ | apply Pick.there))) one3 rfl rfl ?_
        refine L_nil ?_
        refine W_seq ?_
        refine W_region ?_
        refine L_loadW rfl rfl (RdC.blk (by first | (with_reducible repeat (first | exact List.Mem.head _ | apply List.Mem.tail)); done | (repeat (first | exact List.Mem.head _ | apply List.Mem.tail)))) (by exact agg61) ?_
        refine L_storeW rfl rfl (by first | (with_reducible repeat (first | exact Pick.here _ | apply Pick.there)); done | (repeat (first | exact Pick.here _ | apply Pick.there))) (by exact agg61) (by rfl) (by first | exact allOne rfl | exact fun v hv => GT.one _ v hv | (simp [Value.oneCell', TL.hdr, Value.cells]; done)) ?_
        refine L_nil ?_
        obtain rfl := Option.some.inj hp
        refine W_ret ?_
        refine res1 rfl (ResOK.cell rfl (by first | (with_reducible repeat (first | exact List.Mem.head _ | apply List.Mem.tail)); done | (repeat (first | exact List.Mem.head _ | apply List.Mem.tail))) (by exact agg61)) ⟨(y15x0, v4_4, v4_5, v4_6), (a0_1, y15y0_2, y15y0_3), rfl, rfl, rfl, rfl⟩ (MSub.cons (by first | (with_reducible repeat (first | exact Pick.here _ | apply Pick.there)); done | (repeat (first | exact Pick.here _ | apply Pick.there))) (MSub.nil _))
      · skip
        replace hp := cond_f hc12 hp
        refine W_seq ?_
        refine W_region ?_
        refine L_binV rfl rfl rfl bv_eql ?_
        refine L_assign rfl rfl ?_
        refine L_nil ?_
        refine W_weaken (l' := [(0, _), (2, _), (3, _), (34, _), (45, _)]) (Sub.cons rfl (Sub.cons rfl (Sub.cons rfl (Sub.cons rfl (Sub.cons rfl (Sub.nil _)))))) (MSub.refl _) ?_
        refine W_cond rfl (fun hc16 => ?_) (fun hc16 => ?_)
        · skip
          replace hp := cond_t hc16 hp
          refine W_region ?_
          refine L_move rfl rfl ?_
          have ho := hp; clear hp; obtain ⟨y17, hy17, hp⟩ := bind_any ho; clear ho
          refine L_bsN ([0, 10000, 10001] : List Int) (xs := [(0, .const (.int .i64 0)), (1, .const (.int .i64 10000)), (2, .const (.int .i64 10001))]) rfl rfl el34 rfl rfl rfl rfl rfl rfl rfl hy17 (fun X18 hdX18 => ?_)
          subst hdX18
          have ho := hp; clear hp; obtain ⟨y19, hy19, hp⟩ := bind_any ho; clear ho
          refine L_callM [blk b0_ _ _] _ rfl fn90 rfl (perm_cons (by first | (with_reducible repeat (first | exact Pick.here _ | apply Pick.there)); done | (repeat (first | exact Pick.here _ | apply Pick.there))) (perm_nil_left _)) (by exact fun w hw => s_l1PickInt_walk w b0_ (a0_1, y11y0_2, y11y0_3) X18 ((RdX.tree (by first | (with_reducible repeat (first | exact List.Mem.head _ | apply List.Mem.tail)); done | (repeat (first | exact List.Mem.head _ | apply List.Mem.tail)))) w hw) ((RdX.old h0_0) w hw) _ hy19) ?_
          rintro vy19 My19 ⟨y19x0, y19y0, hvy19, hdy19, rfl, hey19_0⟩
          subst hvy19
          subst hdy19
          obtain ⟨y19y0_1, y19y0_2, y19y0_3⟩ := y19y0
          obtain rfl : a0_1 = y19y0_1 := hey19_0.symm
          simp only [cells_pair, cells_int, cells_bool, cells_str, cells_TL, List.cons_append, List.nil_append]
          try dsimp only [dat_pair, dat_int, dat_bool, dat_str, dat_ar] at hp
          refine L_fieldAddr rfl rfl fld61_1 ?_
          refine L_store rfl rfl (by first | (with_reducible repeat (first | exact Pick.here _ | apply Pick.there)); done | (repeat (first | exact Pick.here _ | apply Pick.there))) one3 rfl rfl ?_
          refine L_nil ?_
          refine W_seq ?_
          refine W_region ?_
          refine L_loadW rfl rfl (RdC.blk (by first | (with_reducible repeat (first | exact List.Mem.head _ | apply List.Mem.tail)); done | (repeat (first | exact List.Mem.head _ | apply List.Mem.tail)))) (by exact agg61) ?_
          refine L_storeW rfl rfl (by first | (with_reducible repeat (first | exact Pick.here _ | apply Pick.there)); done | (repeat (first | exact Pick.here _ | apply Pick.there))) (by exact agg61) (by rfl) (by first | exact allOne rfl | exact fun v hv => GT.one _ v hv | (simp [Value.oneCell', TL.hdr, Value.cells]; done)) ?_
          refine L_nil ?_
          obtain rfl := Option.some.inj hp
          refine W_ret ?_
          refine res1 rfl (ResOK.cell rfl (by first | (with_reducible repeat (first | exact List.Mem.head _ | apply List.Mem.tail)); done | (repeat (first | exact List.Mem.head _ | apply List.Mem.tail))) (by exact agg61)) ⟨(v4_3, y19x0, v4_5, v4_6), (a0_1, y19y0_2, y19y0_3), rfl, rfl, rfl, rfl⟩ (MSub.cons (by first | (with_reducible repeat (first | exact Pick.here _ | apply Pick.there)); done | (repeat (first | exact Pick.here _ | apply Pick.there))) (MSub.nil _))
        · skip
          replace hp := cond_f hc16 hp
          refine W_seq ?_
          refine W_region ?_
          refine L_binV rfl rfl rfl bv_eql ?_
          refine L_assign rfl rfl ?_
          refine L_nil ?_
          refine W_weaken (l' := [(0, _), (2, _), (3, _), (51, _)]) (Sub.cons rfl (Sub.cons rfl (Sub.cons rfl (Sub.cons rfl (Sub.nil _))))) (MSub.refl _) ?_
          refine W_cond rfl (fun hc20 => ?_) (fun hc20 => ?_)
          · skip
            replace hp := cond_t hc20 hp
            refine W_region ?_
            refine L_move rfl rfl ?_
            have ho := hp; clear hp; obtain ⟨y21, hy21, hp⟩ := bind_any ho; clear ho
            refine L_bsN ([(-1), 11, 12, 13] : List Int) (xs := [(0, .const (.int .i64 (-1))), (1, .const (.int .i64 11)), (2, .const (.int .i64 12)), (3, .const (.int .i64 13))]) rfl rfl el34 rfl rfl rfl rfl rfl rfl rfl hy21 (fun X22 hdX22 => ?_)
            subst hdX22
            have ho := hp; clear hp; obtain ⟨y23, hy23, hp⟩ := bind_any ho; clear ho
            refine L_callM [blk b0_ _ _] _ rfl fn90 rfl (perm_cons (by first | (with_reducible repeat (first | exact Pick.here _ | apply Pick.there)); done | (repeat (first | exact Pick.here _ | apply Pick.there))) (perm_nil_left _)) (by exact fun w hw => s_l1PickInt_walk w b0_ (a0_1, y11y0_2, y11y0_3) X22 ((RdX.tree (by first | (with_reducible repeat (first | exact List.Mem.head _ | apply List.Mem.tail)); done | (repeat (first | exact List.Mem.head _ | apply List.Mem.tail)))) w hw) ((RdX.old h0_0) w hw) _ hy23) ?_
            rintro vy23 My23 ⟨y23x0, y23y0, hvy23, hdy23, rfl, hey23_0⟩
            subst hvy23
            subst hdy23
            obtain ⟨y23y0_1, y23y0_2, y23y0_3⟩ := y23y0
            obtain rfl : a0_1 = y23y0_1 := hey23_0.symm
            simp only [cells_pair, cells_int, cells_bool, cells_str, cells_TL, List.cons_append, List.nil_append]
            try dsimp only [dat_pair, dat_int, dat_bool, dat_str, dat_ar] at hp
            refine L_fieldAddr rfl rfl fld61_2 ?_
            refine L_store rfl rfl (by first | (with_reducible repeat (first | exact Pick.here _ | apply Pick.there)); done | (repeat (first | exact Pick.here _ | apply Pick.there))) one3 rfl rfl ?_
            refine L_nil ?_
            refine W_seq ?_
            refine W_region ?_
            refine L_loadW rfl rfl (RdC.blk (by first | (with_reducible repeat (first | exact List.Mem.head _ | apply List.Mem.tail)); done | (repeat (first | exact List.Mem.head _ | apply List.Mem.tail)))) (by exact agg61) ?_
            refine L_storeW rfl rfl (by first | (with_reducible repeat (first | exact Pick.here _ | apply Pick.there)); done | (repeat (first | exact Pick.here _ | apply Pick.there))) (by exact agg61) (by rfl) (by first | exact allOne rfl | exact fun v hv => GT.one _ v hv | (simp [Value.oneCell', TL.hdr, Value.cells]; done)) ?_
            refine L_nil ?_
            obtain rfl := Option.some.inj hp
            refine W_ret ?_
            refine res1 rfl (ResOK.cell rfl (by first | (with_reducible repeat (first | exact List.Mem.head _ | apply List.Mem.tail)); done | (repeat (first | exact List.Mem.head _ | apply List.Mem.tail))) (by exact agg61)) ⟨(v4_3, v4_4, y23x0, v4_6), (a0_1, y23y0_2, y23y0_3), rfl, rfl, rfl, rfl⟩ (MSub.cons (by first | (with_reducible repeat (first | exact Pick.here _ | apply Pick.there)); done | (repeat (first | exact Pick.here _ | apply Pick.there))) (MSub.nil _))
          · skip
            replace hp := cond_f hc20 hp
            refine W_region ?_
            refine L_move rfl rfl ?_
            have ho := hp; clear hp; obtain ⟨y24, hy24, hp⟩ := bind_any ho; clear ho
            refine L_bsN ([(-1), 1000000, 1000001] : List Int) (xs := [(0, .const (.int .i64 (-1))), (1, .const (.int .i64 1000000)), (2, .const (.int .i64 1000001))]) rfl rfl el34 rfl rfl rfl rfl rfl rfl rfl hy24 (fun X25 hdX25 => ?_)
            subst hdX25
            have ho := hp; clear hp; obtain ⟨y26, hy26, hp⟩ := bind_any ho; clear ho
            refine L_callM [blk b0_ _ _] _ rfl fn90 rfl (perm_cons (by first | (with_reducible repeat (first | exact Pick.here _ | apply Pick.there)); done | (repeat (first | exact Pick.here _ | apply Pick.there))) (perm_nil_left _)) (by exact fun w hw => s_l1PickInt_walk w b0_ (a0_1, y11y0_2, y11y0_3) X25 ((RdX.tree (by first | (with_reducible repeat (first | exact List.Mem.head _ | apply List.Mem.tail)); done | (repeat (first | exact List.Mem.head _ | apply List.Mem.tail)))) w hw) ((RdX.old h0_0) w hw) _ hy26) ?_
            rintro vy26 My26 ⟨y26x0, y26y0, hvy26, hdy26, rfl, hey26_0⟩
            subst hvy26
            subst hdy26
            obtain ⟨y26y0_1, y26y0_2, y26y0_3⟩ := y26y0
            obtain rfl : a0_1 = y26y0_1 := hey26_0.symm
            simp only [cells_pair, cells_int, cells_bool, cells_str, cells_TL, List.cons_append, List.nil_append]
            try dsimp only [dat_pair, dat_int, dat_bool, dat_str, dat_ar] at hp
            refine L_fieldAddr rfl rfl fld61_3 ?_
            refine L_store rfl rfl (by first | (with_reducible repeat (first | exact Pick.here _ | apply Pick.there)); done | (repeat (first | exact Pick.here _ | apply Pick.there))) one3 rfl rfl ?_
            refine L_nil ?_
            refine W_seq ?_
            refine W_region ?_
            refine L_loadW rfl rfl (RdC.blk (by first | (with_reducible repeat (first | exact List.Mem.head _ | apply List.Mem.tail)); done | (repeat (first | exact List.Mem.head _ | apply List.Mem.tail)))) (by exact agg61) ?_
            refine L_storeW rfl rfl (by first | (with_reducible repeat (first | exact Pick.here _ | apply Pick.there)); done | (repeat (first | exact Pick.here _ | apply Pick.there))) (by exact agg61) (by rfl) (by first | exact allOne rfl | exact fun v hv => GT.one _ v hv | (simp [Value.oneCell', TL.hdr, Value.cells]; done)) ?_
            refine L_nil ?_
            obtain rfl := Option.some.inj hp
            refine W_ret ?_
            refine res1 rfl (ResOK.cell rfl (by first | (with_reducible repeat (first | exact List.Mem.head _ | apply List.Mem.tail)); done | (repeat (first | exact List.Mem.head _ | apply List.Mem.tail))) (by exact agg61)) ⟨(v4_3, v4_4, v4_5, y26x0), (a0_1, y26y0_2, y26y0_3), rfl, rfl, rfl, rfl⟩ (MSub.cons (by first | (with_reducible repeat (first | exact Pick.here _ | apply Pick.there)); done | (repeat (first | exact Pick.here _ | apply Pick.there))) (MSub.nil _))
    · skip
      replace hp := cond_f hc10 hp
      refine W_skip ?_
      refine W_seq ?_
      refine W_region ?_
      refine L_loadW rfl rfl (RdC.blk (by first | (with_reducible repeat (first | exact List.Mem.head _ | apply List.Mem.tail)); done | (repeat (first | exact List.Mem.head _ | apply List.Mem.tail)))) (by exact agg61) ?_
      refine L_storeW rfl rfl (by first | (with_reducible repeat (first | exact Pick.here _ | apply Pick.there)); done | (repeat (first | exact Pick.here _ | apply Pick.there))) (by exact agg61) (by rfl) (by first | exact allOne rfl | exact fun v hv => GT.one _ v hv | (simp [Value.oneCell', TL.hdr, Value.cells]; done)) ?_
      refine L_nil ?_
      obtain rfl := Option.some.inj hp
      refine W_ret ?_
      refine res1 rfl (ResOK.cell rfl (by first | (with_reducible repeat (first | exact List.Mem.head _ | apply List.Mem.tail)); done | (repeat (first | exact List.Mem.head _ | apply List.Mem.tail))) (by exact agg61)) ⟨(v4_3, v4_4, v4_5, v4_6), (a0_1, y9y0_2, y9y0_3), rfl, rfl, rfl, rfl⟩ (MSub.cons (by first | (with_reducible repeat (first | exact Pick.here _ | apply Pick.there)); done | (repeat (first | exact Pick.here _ | apply Pick.there))) (MSub.nil _))

noncomputable def s_DrawRetryFail (a0 : List UInt8) : Option (D_Retry × Int) :=
  Option.bind (s_l1New a0) (fun y1 => Option.bind (s_l24Some (y1.1, y1.2.1, y1.2.2)) (fun y2 => Option.bind (s_l1Once (y2.2.1, y2.2.2.1, y2.2.2.2) 10) (fun y3 => cond y3.1 (Option.bind (some ([1000000, 999990, 9223372036854775807] : List Int)) (fun y5 => Option.bind (s_l1PickInt (y3.2.1, y3.2.2.1, y3.2.2.2) y5) (fun y7 => some ((y2.1.1, y2.1.2.1, y2.1.2.2.1, y2.1.2.2.2), y7.1)))) (Option.bind (s_l1Below (y3.2.1, y3.2.2.1, y3.2.2.2) 5) (fun y8 => some ((y2.1.1, y2.1.2.1, y2.1.2.2.1, y2.1.2.2.2), IntKind.wrap .i64 (IntKind.wrap .i64 (y2.1.2.2.2 + y8.1) - 1)))))))

theorem s_DrawRetryFail_walk (w : World) (a0 : TL UInt8) (h0 : GT.rd w [] a0) (r : D_Retry × Int) (hp : s_DrawRetryFail (GT.dat a0) = some r) : Spec Try.prog 39 [(TL.hdr a0)].toArray w [] (fun v M => ∃ (x0 : T_Retry) (x1 : Int), v = .tuple #[.agg (GT.cells x0).toArray, .int .i64 x1] ∧ (GT.dat x0, GT.dat x1) = r ∧ M = []) := by
  refine Spec.intro Try.func39 rfl Try.ntmps39 rfl ?_
  unfold s_DrawRetryFail at hp
  try dsimp only [dat_pair, dat_int, dat_bool, dat_str, dat_ar] at hp
  refine W_seq ?_
  refine W_region ?_
  refine L_alloc rfl zero61 (fun bk2 => ?_)
  refine L_assign rfl rfl ?_
  refine L_nil ?_
  refine W_seq ?_
  refine W_region ?_
  refine L_move rfl rfl ?_
  have ho := hp; clear hp; obtain ⟨y1, hy1, hp⟩ := bind_any ho; clear ho
  refine L_callR rfl fn58 rfl (by exact fun w hw => s_l1New_walk w a0 (RdT.now (RdT.old h0) hw) _ hy1) ?_
  rintro vy1 My1 ⟨bky1, y1x, hvy1, hdy1, rfl, hey1_0⟩
  subst hvy1
  subst hdy1
  obtain ⟨y1x_1, y1x_2, y1x_3⟩ := y1x
  obtain rfl : a0 = y1x_1 := hey1_0.symm
  simp only [cells_pair, cells_int, cells_bool, cells_str, cells_TL, List.cons_append, List.nil_append]
  try dsimp only [dat_pair, dat_int, dat_bool, dat_str, dat_ar] at hp
  refine L_assign rfl rfl ?_
  refine L_nil ?_
  refine W_seq ?_
  refine W_region ?_
  refine L_move rfl rfl ?_
  have ho := hp; clear hp; obtain ⟨y2, hy2, hp⟩ := bind_any ho; clear ho
  refine L_callM [blk bky1 _ _] _ rfl fn88 rfl (perm_cons (by first | (with_reducible repeat (first | exact Pick.here _ | apply Pick.there)); done | (repeat (first | exact Pick.here _ | apply Pick.there))) (perm_nil_left _)) (by exact fun w hw => s_l24Some_walk w bky1 (a0, y1x_2, y1x_3) ((RdX.old h0) w hw) _ hy2) ?_
  rintro vy2 My2 ⟨y2x0, y2y0, hvy2, hdy2, rfl, hey2_0⟩
  subst hvy2
  subst hdy2
  obtain ⟨y2x0_1, y2x0_2, y2x0_3, y2x0_4⟩ := y2x0
  obtain ⟨y2y0_1, y2y0_2, y2y0_3⟩ := y2y0
  obtain rfl : a0 = y2y0_1 := hey2_0.symm
  simp only [cells_pair, cells_int, cells_bool, cells_str, cells_TL, List.cons_append, List.nil_append]
  try dsimp only [dat_pair, dat_int, dat_bool, dat_str, dat_ar] at hp
  refine L_alloc rfl zero61 (fun bk5 => ?_)
  refine L_storeW rfl rfl (by first | (with_reducible repeat (first | exact Pick.here _ | apply Pick.there)); done | (repeat (first | exact Pick.here _ | apply Pick.there))) (by exact agg61) (by rfl) (by first | exact allOne rfl | exact fun v hv => GT.one _ v hv | (simp [Value.oneCell', TL.hdr, Value.cells]; done)) ?_
  refine L_nil ?_
  refine W_seq ?_
  refine W_seq ?_
  refine W_region ?_
  refine L_move rfl rfl ?_
  have ho := hp; clear hp; obtain ⟨y3, hy3, hp⟩ := bind_any ho; clear ho
  refine L_callM [blk bky1 _ _] _ rfl fn89 rfl (perm_cons (by first | (with_reducible repeat (first | exact Pick.here _ | apply Pick.there)); done | (repeat (first | exact Pick.here _ | apply Pick.there))) (perm_nil_left _)) (by exact fun w hw => s_l1Once_walk w bky1 (a0, y2y0_2, y2y0_3) 10 ((RdX.old h0) w hw) _ hy3) ?_
  rintro vy3 My3 ⟨y3x0, y3y0, hvy3, hdy3, rfl, hey3_0⟩
  subst hvy3
  subst hdy3
  obtain ⟨y3y0_1, y3y0_2, y3y0_3⟩ := y3y0
  obtain rfl : a0 = y3y0_1 := hey3_0.symm
  simp only [cells_pair, cells_int, cells_bool, cells_str, cells_TL, List.cons_append, List.nil_append]
  try dsimp only [dat_pair, dat_int, dat_bool, dat_str, dat_ar] at hp
  refine L_nil ?_
  refine W_weaken (l' := [(2, _), (4, _), (5, _), (11, _)]) (Sub.cons rfl (Sub.cons rfl (Sub.cons rfl (Sub.cons rfl (Sub.nil _))))) (MSub.refl _) ?_
  refine W_cond rfl (fun hc4 => ?_) (fun hc4 => ?_)
  · skip
    replace hp := cond_t hc4 hp
    refine W_seq ?_
    have ho := hp; clear hp; obtain ⟨y5, hy5, hp⟩ := bind_any ho; clear ho
    have ho := hp; clear hp; obtain ⟨y7, hy7, hp⟩ := bind_any ho; clear ho
    refine W_DS (pre := [_, _, _, _]) (suf := [_, _]) [12, 15] [blk bky1 _ 144] _ (perm_cons (by first | (with_reducible repeat (first | exact Pick.here _ | apply Pick.there)); done | (repeat (first | exact Pick.here _ | apply Pick.there))) (perm_nil_left _)) mix (by kernel_rfl) (by kernel_rfl) rfl ?_
    refine D_loadW GC.none (OpV.t rfl) (fun hg => RdC.blk (by first | (with_reducible repeat (first | exact List.Mem.head _ | apply List.Mem.tail)); done | (repeat (first | exact List.Mem.head _ | apply List.Mem.tail)))) (by exact agg61) ?_
    refine D_move GC.none (OpV.t rfl) ?_
    refine D_bsN ([1000000, 999990, 9223372036854775807] : List Int) (xs := [(0, .const (.int .i64 1000000)), (1, .const (.int .i64 999990)), (2, .const (.int .i64 9223372036854775807))]) (ps := [(0, .int .i64 1000000), (1, .int .i64 999990), (2, .int .i64 9223372036854775807)]) (OpVp.cons OpV.c (OpVp.cons OpV.c (OpVp.cons OpV.c (OpVp.nil)))) el34 rfl rfl rfl rfl rfl rfl rfl hy5 ?_
    refine D_callMR [_, _] (fun v M => ∃ (x0 : Int) (y0 : T_l1Cur), v = .int .i64 x0 ∧ (GT.dat x0, GT.dat y0) = y7 ∧ M = [blk bky1 (GT.cells y0) 144] ∧ y0.1 = a0) [blk bky1 _ 144] (perm_cons (by first | (with_reducible repeat (first | exact Pick.here _ | apply Pick.there)); done | (repeat (first | exact Pick.here _ | apply Pick.there))) (perm_nil_left _)) fn90 ⟨⟨_, rfl, fun _ _ h => h⟩, ⟨⟨_, rfl, fun _ _ h => h⟩, trivial⟩⟩ (by rintro w F vs hw hM ⟨v0, u0, M0, rfl, g0, hin0, ⟨v1, u1, M1, rfl, g1, hin1, rfl⟩⟩; obtain rfl := g0.2.1 trivial; obtain ⟨m1, rfl, hd1, rfl⟩ := g1; subst hd1; exact s_l1PickInt_walk w bky1 (a0, y3y0_2, y3y0_3) m1 ((RdX.tree (hin1 _ (List.mem_singleton.2 rfl))) w hw) ((RdX.old h0) w hw) _ hy7) ?_
    refine DV_nil ?_
    refine Give_R rfl rfl ?_
    rintro vy7 My7 ⟨y7x0, y7y0, hvy7, hdy7, rfl, hey7_0⟩
    subst hvy7
    subst hdy7
    obtain ⟨y7y0_1, y7y0_2, y7y0_3⟩ := y7y0
    obtain rfl : a0 = y7y0_1 := hey7_0.symm
    refine Give_drop rfl ?_
    refine Give_drop rfl ?_
    refine Give_is rfl rfl ?_
    refine Give_nil ?_
    simp only [cells_pair, cells_int, cells_bool, cells_str, cells_TL, List.cons_append, List.nil_append]
    try dsimp only [dat_pair, dat_int, dat_bool, dat_str, dat_ar] at hp
    refine L_storeW rfl rfl (by first | (with_reducible repeat (first | exact Pick.here _ | apply Pick.there)); done | (repeat (first | exact Pick.here _ | apply Pick.there))) (by exact agg61) (by rfl) (by first | exact allOne rfl | exact fun v hv => GT.one _ v hv | (simp [Value.oneCell', TL.hdr, Value.cells]; done)) ?_
    refine L_assign rfl rfl ?_
    refine L_nil ?_
    obtain rfl := Option.some.inj hp
    refine W_ret ?_
    refine res2 rfl (ResOK.cell rfl (by first | (with_reducible repeat (first | exact List.Mem.head _ | apply List.Mem.tail)); done | (repeat (first | exact List.Mem.head _ | apply List.Mem.tail))) (by exact agg61)) (ResOK.tmp rfl) ⟨(y2x0_1, y2x0_2, y2x0_3, y2x0_4), y7x0, rfl, rfl, rfl⟩ (MSub.nil _)
  · skip
    replace hp := cond_f hc4 hp
    refine W_skip ?_
    refine W_seq ?_
    have ho := hp; clear hp; obtain ⟨y8, hy8, hp⟩ := bind_any ho; clear ho
    refine W_DS (pre := [_, _, _, _, _, _, _, _, _]) (suf := []) [3, 20] [blk bky1 _ 144, blk bk2 _ _] _ (perm_cons (by first | (with_reducible repeat (first | exact Pick.here _ | apply Pick.there)); done | (repeat (first | exact Pick.here _ | apply Pick.there))) (perm_cons (by first | (with_reducible repeat (first | exact Pick.here _ | apply Pick.there)); done | (repeat (first | exact Pick.here _ | apply Pick.there))) (perm_nil_left _))) mix (by kernel_rfl) (by kernel_rfl) rfl ?_
    refine D_loadW GC.none (OpV.t rfl) (fun hg => RdC.blk (by first | (with_reducible repeat (first | exact List.Mem.head _ | apply List.Mem.tail)); done | (repeat (first | exact List.Mem.head _ | apply List.Mem.tail)))) (by exact agg61) ?_
    refine D_fieldAddr GC.none (OpV.t rfl) fld61_3 ?_
    refine D_load GC.none (OpV.t rfl) (fun hg => RdC.blk (by first | (with_reducible repeat (first | exact List.Mem.head _ | apply List.Mem.tail)); done | (repeat (first | exact List.Mem.head _ | apply List.Mem.tail)))) one3 rfl ?_
    refine D_move GC.none (OpV.t rfl) ?_
    refine D_callM (fun v M => ∃ (x0 : Int) (y0 : T_l1Cur), v = .int .i64 x0 ∧ (GT.dat x0, GT.dat y0) = y8 ∧ M = [blk bky1 (GT.cells y0) 144] ∧ y0.1 = a0) [blk bky1 _ 144] (perm_cons (by first | (with_reducible repeat (first | exact Pick.here _ | apply Pick.there)); done | (repeat (first | exact Pick.here _ | apply Pick.there))) (perm_nil_left _)) fn59 (OpVs.cons (OpV.t rfl) (OpVs.cons OpV.c (OpVs.nil))) (by exact fun w F hw hM => s_l1Below_walk w bky1 (a0, y3y0_2, y3y0_3) 5 ((RdX.old h0) w hw) _ hy8) ?_
    refine D_bin GC.none (OpV.t rfl) (show OpV _ _ _ (.int .i64 y8.1) from ⟨_, rfl, fun u M h hc => by obtain ⟨x0, z0, hv, hd, _⟩ := h; subst hd; exact hv⟩) (fun hg => bv_add) ?_
    refine D_bin GC.none (OpV.t rfl) OpV.c (fun hg => bv_sub) ?_
    refine D_storeW (OpV.t rfl) (OpV.t rfl) (by first | (with_reducible repeat (first | exact Pick.here _ | apply Pick.there)); done | (repeat (first | exact Pick.here _ | apply Pick.there))) (by exact agg61) (by rfl) (by first | exact allOne rfl | exact fun v hv => GT.one _ v hv | (simp [Value.oneCell', TL.hdr, Value.cells]; done)) ?_
    refine D_assign GC.none (OpV.t rfl) ?_
    refine DV_nil ?_
    refine Give_is rfl rfl ?_
    refine Give_st ?_
    refine Give_drop rfl ?_
    refine Give_drop rfl ?_
    refine Give_R rfl rfl ?_
    rintro vy8 My8 ⟨y8x0, y8y0, hvy8, hdy8, rfl, hey8_0⟩
    subst hvy8
    subst hdy8
    obtain ⟨y8y0_1, y8y0_2, y8y0_3⟩ := y8y0
    obtain rfl : a0 = y8y0_1 := hey8_0.symm
    refine Give_drop rfl ?_
    refine Give_drop rfl ?_
    refine Give_drop rfl ?_
    refine Give_drop rfl ?_
    refine Give_nil ?_
    simp only [cells_pair, cells_int, cells_bool, cells_str, cells_TL, List.cons_append, List.nil_append]
    try dsimp only [dat_pair, dat_int, dat_bool, dat_str, dat_ar] at hp
    refine L_nil ?_
    obtain rfl := Option.some.inj hp
    refine W_ret ?_
    refine res2 rfl (ResOK.cell rfl (by first | (with_reducible repeat (first | exact List.Mem.head _ | apply List.Mem.tail)); done | (repeat (first | exact List.Mem.head _ | apply List.Mem.tail))) (by exact agg61)) (ResOK.tmp rfl) ⟨(y2x0_1, y2x0_2, y2x0_3, y2x0_4), IntKind.wrap .i64 (IntKind.wrap .i64 (y2x0_4 + y8x0) - 1), rfl, rfl, rfl⟩ (MSub.nil _)

noncomputable def w_FnRetry (a0 : List UInt8) : Option Bool :=
  Option.bind (w_big a0) (fun y1 => cond y1 (some true) (Option.bind (w_at a0 0) (fun y3 => Option.bind (w_at a0 1) (fun y4 => whileP (fun s5 : Int × Int × Int × Int × Int × Int × Int × Int => cond (decide (s5.2.2.2.1 < 60)) (Option.bind (w_at a0 s5.2.2.2.1) (fun y7 => Option.bind (i_RetryMay (s5.2.2.2.2.1, s5.2.2.2.2.2.1, s5.2.2.2.2.2.2.1, s5.2.2.2.2.2.2.2) (IntKind.wrap .i64 (s5.1 + (y7).tmod 40))) (fun y8 => Option.bind (i_RetryFail (s5.2.2.2.2.1, s5.2.2.2.2.2.1, s5.2.2.2.2.2.2.1, s5.2.2.2.2.2.2.2) (IntKind.wrap .i64 (s5.1 + (y7).tmod 40))) (fun y9 => cond (((!(y8 == y9.2)) || (y9.2 && (((decide (IntKind.wrap .i64 (y9.1.2.2.2 - IntKind.wrap .i64 (s5.1 + (y7).tmod 40)) < s5.2.1)) || (decide (s5.2.2.2.2.2.1 < IntKind.wrap .i64 (y9.1.2.2.2 - IntKind.wrap .i64 (s5.1 + (y7).tmod 40))))) || (!decide (y9.1.2.2.1 = IntKind.wrap .i64 (s5.2.2.2.2.2.2.1 + 1)))))) || ((!y9.2) && (!(decide (y9.1.1 = s5.2.2.2.2.1) && (decide (y9.1.2.1 = s5.2.2.2.2.2.1) && (decide (y9.1.2.2.1 = s5.2.2.2.2.2.2.1) && (decide (y9.1.2.2.2 = s5.2.2.2.2.2.2.2) && true))))))) (Option.map .inr (some false)) (jbind (cond y9.2 (some (.inl ((IntKind.wrap .i64 (y9.1.2.2.2 - IntKind.wrap .i64 (s5.1 + (y7).tmod 40)), IntKind.wrap .i64 (s5.2.2.1 + 1))))) (some (.inl ((s5.2.1, s5.2.2.1))))) (fun s12 : Int × Int => Option.bind (w_at a0 s5.2.2.2.1) (fun y14 => cond (decide ((y14).tmod 23 = 0)) (Option.bind (i_RetryGood (y9.1.1, y9.1.2.1, y9.1.2.2.1, y9.1.2.2.2)) (fun y16 => gb (!(decide (12 < 0))) (s_RetryOk (y16.1, y16.2.1, y16.2.2.1, y16.2.2.2)) (fun y17 => cond ((decide (12 < 0)) || (!y17)) (Option.map .inr (some false)) (some (.inl ((IntKind.wrap .i64 (s5.1 + (y7).tmod 40), 0, 0, IntKind.wrap .i64 (s5.2.2.2.1 + 1), y16.1, y16.2.1, y16.2.2.1, y16.2.2.2))))))) (gb (!(decide (12 < s12.2))) (s_RetryOk (y9.1.1, y9.1.2.1, y9.1.2.2.1, y9.1.2.2.2)) (fun y20 => cond ((decide (12 < s12.2)) || (!y20)) (Option.map .inr (some false)) (some (.inl ((IntKind.wrap .i64 (s5.1 + (y7).tmod 40), s12.1, s12.2, IntKind.wrap .i64 (s5.2.2.2.1 + 1), y9.1.1, y9.1.2.1, y9.1.2.2.1, y9.1.2.2.2))))))))))))) (Option.map .inr (Option.bind (s_DrawRetryFail a0) (fun y24 => Option.bind (i_RetryFail (y24.1.1, y24.1.2.1, y24.1.2.2.1, y24.1.2.2.2) y24.2) (fun y25 => Option.bind (s_RetryFail (y24.1.1, y24.1.2.1, y24.1.2.2.1, y24.1.2.2.2) y24.2) (fun y26 => some ((y25.2 == y26.2) && (decide (y25.1.1 = y26.1.1) && (decide (y25.1.2.1 = y26.1.2.1) && (decide (y25.1.2.2.1 = y26.1.2.2.1) && (decide (y25.1.2.2.2 = y26.1.2.2.2) && true))))))))))) (0, 0, 0, 2, IntKind.wrap .i64 (1 + (y3).tmod 9), IntKind.wrap .i64 (20 + (y4).tmod 80), 0, 0)))))

theorem w_FnRetry_walk (w : World) (a0 : TL UInt8) (h0 : GT.rd w [] a0) (r : Bool) (hp : w_FnRetry (GT.dat a0) = some r) : Spec Try.prog 6 [(TL.hdr a0)].toArray w [] (IsV (.bool r)) := by
  refine Spec.intro Try.func6 rfl Try.ntmps6 rfl ?_
  unfold w_FnRetry at hp
  try dsimp only [dat_pair, dat_int, dat_bool, dat_str, dat_ar] at hp
  refine W_seq ?_
  refine W_region ?_
  refine L_assign rfl rfl ?_
  refine L_nil ?_
  refine W_seq ?_
  refine W_seq ?_
  refine W_region ?_
  refine L_move rfl rfl ?_
  have ho := hp; clear hp; obtain ⟨y1, hy1, hp⟩ := bind_any ho; clear ho
  refine L_callX rfl fn9 rfl (by exact fun w hw => w_big_walk w a0 (RdT.now (RdT.old h0) hw) _ hy1) ?_
  refine L_nil ?_
  refine W_weaken (l' := [(0, _), (18, _)]) (Sub.cons rfl (Sub.cons rfl (Sub.nil _))) (MSub.refl _) ?_
  refine W_cond rfl (fun hc2 => ?_) (fun hc2 => ?_)
  · skip
    replace hp := cond_t hc2 hp
    refine W_seq ?_
    refine W_region ?_
    refine L_assign rfl rfl ?_
    refine L_nil ?_
    obtain rfl := Option.some.inj hp
    refine W_ret ?_
    refine res1 rfl (ResOK.tmp rfl) ⟨rfl, rfl⟩ (MSub.nil _)
  · skip
    replace hp := cond_f hc2 hp
    refine W_skip ?_
    refine W_seq ?_
    refine W_region ?_
    refine L_move rfl rfl ?_
    have ho := hp; clear hp; obtain ⟨y3, hy3, hp⟩ := bind_any ho; clear ho
    refine L_callX rfl fn15 rfl (by exact fun w hw => w_at_walk w a0 0 (RdT.now (RdT.old h0) hw) _ hy3) ?_
    refine L_binV rfl rfl rfl (bv_rem (by decide)) ?_
    refine L_binV rfl rfl rfl bv_add ?_
    refine L_move rfl rfl ?_
    have ho := hp; clear hp; obtain ⟨y4, hy4, hp⟩ := bind_any ho; clear ho
    refine L_callX rfl fn15 rfl (by exact fun w hw => w_at_walk w a0 1 (RdT.now (RdT.old h0) hw) _ hy4) ?_
    refine L_binV rfl rfl rfl (bv_rem (by decide)) ?_
    refine L_binV rfl rfl rfl bv_add ?_
    refine L_build (xs := [(0, .tmp 22), (1, .tmp 26)]) (cs := [.int .i64 (IntKind.wrap .i64 (1 + (y3).tmod 9)), .int .i64 (IntKind.wrap .i64 (20 + (y4).tmod 80)), .int .i64 0, .int .i64 0]) rfl rfl bld61 rfl ?_
    refine L_alloc rfl zero61 (fun bk3 => ?_)
    refine L_storeW rfl rfl (by first | (with_reducible repeat (first | exact Pick.here _ | apply Pick.there)); done | (repeat (first | exact Pick.here _ | apply Pick.there))) (by exact agg61) (by rfl) (by first | exact allOne rfl | exact fun v hv => GT.one _ v hv | (simp [Value.oneCell', TL.hdr, Value.cells]; done)) ?_
    refine L_nil ?_
    refine W_seq ?_
    refine W_region ?_
    refine L_assign rfl rfl ?_
    refine L_nil ?_
    refine W_seq ?_
    refine W_region ?_
    refine L_assign rfl rfl ?_
    refine L_nil ?_
    refine W_seq ?_
    refine W_region ?_
    refine L_assign rfl rfl ?_
    refine L_nil ?_
    refine W_seq ?_
    refine W_seq ?_
    refine W_region ?_
    refine L_assign rfl rfl ?_
    refine L_nil ?_
    refine W_block ?_
    refine W_while (σ := Int × Int × Int × Int × Int × Int × Int × Int) GT.dat (fun ((v5_0, v5_1, v5_2, v5_3, v5_4, v5_5, v5_6, v5_7) : Int × Int × Int × Int × Int × Int × Int × Int) => [(4, .int .i64 v5_0), (5, .int .i64 v5_1), (6, .int .i64 v5_2), (7, .int .i64 v5_3)]) (fun ((v5_0, v5_1, v5_2, v5_3, v5_4, v5_5, v5_6, v5_7) : Int × Int × Int × Int × Int × Int × Int × Int) => [blk bk3 [.int .i64 v5_4, .int .i64 v5_5, .int .i64 v5_6, .int .i64 v5_7] 61]) [(0, _), (3, _)] [] (0, 0, 0, 2, IntKind.wrap .i64 (1 + (y3).tmod 9), IntKind.wrap .i64 (20 + (y4).tmod 80), 0, 0) hp (Sub.cons rfl (Sub.cons rfl (Sub.cons rfl (Sub.cons rfl (Sub.cons rfl (Sub.cons rfl (Sub.nil _))))))) (MSub.cons (by first | (with_reducible repeat (first | exact Pick.here _ | apply Pick.there)); done | (repeat (first | exact Pick.here _ | apply Pick.there))) (MSub.nil _)) ?_
    clear hp
    rintro ⟨v5_0, v5_1, v5_2, v5_3, v5_4, v5_5, v5_6, v5_7⟩ x5 hp hx5
    try dsimp only [dat_pair, dat_int, dat_bool, dat_str, dat_ar] at hp
    refine W_weaken (l' := [(0, _), (3, _), (4, _), (5, _), (6, _), (7, _)]) (Sub.cons rfl (Sub.cons rfl (Sub.cons rfl (Sub.cons rfl (Sub.cons rfl (Sub.cons rfl (Sub.nil _))))))) (M' := [_]) (MSub.cons (by first | (with_reducible repeat (first | exact Pick.here _ | apply Pick.there)); done | (repeat (first | exact Pick.here _ | apply Pick.there))) (MSub.nil _)) ?_
    refine W_seq ?_
    refine W_seq ?_
    refine W_region ?_
    refine L_move rfl rfl ?_
    refine L_binV rfl rfl rfl bv_lss ?_
    refine L_nil ?_
    refine W_weaken (l' := [(0, _), (3, _), (4, _), (5, _), (6, _), (7, _), (29, _)]) (Sub.cons rfl (Sub.cons rfl (Sub.cons rfl (Sub.cons rfl (Sub.cons rfl (Sub.cons rfl (Sub.cons rfl (Sub.nil _)))))))) (MSub.refl _) ?_
    refine W_cond rfl (fun hc6 => ?_) (fun hc6 => ?_)
    · skip
      replace hp := cond_t hc6 hp
      refine W_skip ?_
      refine W_seq ?_
      refine W_block ?_
      refine W_seq ?_
      refine W_region ?_
      refine L_move rfl rfl ?_
      refine L_move rfl rfl ?_
      refine L_move rfl rfl ?_
      have ho := hp; clear hp; obtain ⟨y7, hy7, hp⟩ := bind_any ho; clear ho
      refine L_callX rfl fn15 rfl (by exact fun w hw => w_at_walk w a0 v5_3 (RdT.now (RdT.old h0) hw) _ hy7) ?_
      refine L_binV rfl rfl rfl (bv_rem (by decide)) ?_
      refine L_binV rfl rfl rfl bv_add ?_
      refine L_assign rfl rfl ?_
      refine L_nil ?_
      refine W_seq ?_
      refine W_region ?_
      refine L_loadW rfl rfl (RdC.blk (by first | (with_reducible repeat (first | exact List.Mem.head _ | apply List.Mem.tail)); done | (repeat (first | exact List.Mem.head _ | apply List.Mem.tail)))) (by exact agg61) ?_
      refine L_move rfl rfl ?_
      have ho := hp; clear hp; obtain ⟨y8, hy8, hp⟩ := bind_any ho; clear ho
      refine L_callX rfl fn35 rfl (by exact fun w hw => i_RetryMay_walk w (v5_4, v5_5, v5_6, v5_7) (IntKind.wrap .i64 (v5_0 + (y7).tmod 40)) (RdT.now (RdT.pair RdT.int (RdT.pair RdT.int (RdT.pair RdT.int RdT.int))) hw) _ hy8) ?_
      refine L_assign rfl rfl ?_
      refine L_nil ?_
      refine W_seq ?_
      refine W_region ?_
      refine L_loadW rfl rfl (RdC.blk (by first | (with_reducible repeat (first | exact List.Mem.head _ | apply List.Mem.tail)); done | (repeat (first | exact List.Mem.head _ | apply List.Mem.tail)))) (by exact agg61) ?_
      refine L_move rfl rfl ?_
      have ho := hp; clear hp; obtain ⟨y9, hy9, hp⟩ := bind_any ho; clear ho
      refine L_callR rfl fn36 rfl (by exact fun w hw => i_RetryFail_walk w (v5_4, v5_5, v5_6, v5_7) (IntKind.wrap .i64 (v5_0 + (y7).tmod 40)) (RdT.now (RdT.pair RdT.int (RdT.pair RdT.int (RdT.pair RdT.int RdT.int))) hw) _ hy9) ?_
      rintro vy9 My9 ⟨y9x0, y9x1, hvy9, hdy9, rfl⟩
      subst hvy9
      subst hdy9
      obtain ⟨y9x0_1, y9x0_2, y9x0_3, y9x0_4⟩ := y9x0
      simp only [cells_pair, cells_int, cells_bool, cells_str, cells_TL, List.cons_append, List.nil_append]
      try dsimp only [dat_pair, dat_int, dat_bool, dat_str, dat_ar] at hp
      refine L_move rfl rfl ?_
      refine L_extract rfl rfl rfl ?_
      refine L_extract rfl rfl rfl ?_
      refine L_alloc rfl zero61 (fun bk9 => ?_)
      refine L_storeW rfl rfl (by first | (with_reducible repeat (first | exact Pick.here _ | apply Pick.there)); done | (repeat (first | exact Pick.here _ | apply Pick.there))) (by exact agg61) (by rfl) (by first | exact allOne rfl | exact fun v hv => GT.one _ v hv | (simp [Value.oneCell', TL.hdr, Value.cells]; done)) ?_
      refine L_assign rfl rfl ?_
      refine L_nil ?_
      refine W_seq ?_
      refine W_seq ?_
      refine W_D0 [86] mix (by kernel_rfl) rfl ?_
      refine D_move GC.none (OpV.t rfl) ?_
      refine D_move GC.none (OpV.t rfl) ?_
      refine D_bin GC.none (OpV.t rfl) (OpV.t rfl) (fun hg => (bv_bneq und4)) ?_
      refine D_move GC.none (OpV.t rfl) ?_
      refine D_move (GC.some rfl rfl) (OpV.t rfl) ?_
      refine D_move (GC.some rfl rfl) (OpV.s rfl) ?_
      refine D_fieldAddr (GC.some rfl rfl) (OpV.t rfl) fld61_3 ?_
      refine D_load (GC.some rfl rfl) (OpV.s rfl) (fun hg => RdC.blk (by first | (with_reducible repeat (first | exact List.Mem.head _ | apply List.Mem.tail)); done | (repeat (first | exact List.Mem.head _ | apply List.Mem.tail)))) one3 rfl ?_
      refine D_move (GC.some rfl rfl) (OpV.t rfl) ?_
      refine D_bin (GC.some rfl rfl) (OpV.s rfl) (OpV.s rfl) (fun hg => bv_sub) ?_
      refine D_move (GC.some rfl rfl) (OpV.t rfl) ?_
      refine D_bin (GC.some rfl rfl) (OpV.s rfl) (OpV.s rfl) (fun hg => bv_lss) ?_
      refine D_move (GC.some rfl rfl) (OpV.s rfl) ?_
      refine D_fieldAddr (GC.some rfl rfl) (OpV.t rfl) fld61_3 ?_
      refine D_load (GC.some rfl rfl) (OpV.s rfl) (fun hg => RdC.blk (by first | (with_reducible repeat (first | exact List.Mem.head _ | apply List.Mem.tail)); done | (repeat (first | exact List.Mem.head _ | apply List.Mem.tail)))) one3 rfl ?_
      refine D_move (GC.some rfl rfl) (OpV.t rfl) ?_
      refine D_bin (GC.some rfl rfl) (OpV.s rfl) (OpV.s rfl) (fun hg => bv_sub) ?_
      refine D_fieldAddr (GC.some rfl rfl) (OpV.t rfl) fld61_1 ?_
      refine D_load (GC.some rfl rfl) (OpV.s rfl) (fun hg => RdC.blk (by first | (with_reducible repeat (first | exact List.Mem.head _ | apply List.Mem.tail)); done | (repeat (first | exact List.Mem.head _ | apply List.Mem.tail)))) one3 rfl ?_
      refine D_bin (GC.some rfl rfl) (OpV.s rfl) (OpV.s rfl) (fun hg => bv_gtr) ?_
      refine D_or (cy := _) (GC.some rfl rfl) (OpV.s rfl) (OpV.s rfl) (fun h hb => ⟨h, hb⟩) ?_
      refine D_move (GC.some rfl rfl) (OpV.s rfl) ?_
      refine D_fieldAddr (GC.some rfl rfl) (OpV.t rfl) fld61_2 ?_
      refine D_load (GC.some rfl rfl) (OpV.s rfl) (fun hg => RdC.blk (by first | (with_reducible repeat (first | exact List.Mem.head _ | apply List.Mem.tail)); done | (repeat (first | exact List.Mem.head _ | apply List.Mem.tail)))) one3 rfl ?_
      refine D_fieldAddr (GC.some rfl rfl) (OpV.t rfl) fld61_2 ?_
      refine D_load (GC.some rfl rfl) (OpV.s rfl) (fun hg => RdC.blk (by first | (with_reducible repeat (first | exact List.Mem.head _ | apply List.Mem.tail)); done | (repeat (first | exact List.Mem.head _ | apply List.Mem.tail)))) one3 rfl ?_
      refine D_bin (GC.some rfl rfl) (OpV.s rfl) OpV.c (fun hg => bv_add) ?_
      refine D_bin (GC.some rfl rfl) (OpV.s rfl) (OpV.s rfl) (fun hg => bv_neq) ?_
      refine D_or (cy := _) (GC.some rfl rfl) (OpV.s rfl) (OpV.s rfl) (fun h hb => ⟨h, hb⟩) ?_
      refine D_and (cy := _) (GC.some rfl rfl) (OpV.s rfl) (OpV.s rfl) (fun h hb => ⟨h, hb⟩) ?_
      refine D_or (cy := _) GC.none (OpV.t rfl) (OpV.s rfl) (fun h hb => ⟨h, hb⟩) ?_
      refine D_move GC.none (OpV.t rfl) ?_
      refine D_move (GC.some rfl rfl) (OpV.t rfl) ?_
      refine D_not (GC.some rfl rfl) (OpV.s rfl) ?_
      refine D_move (GC.some rfl rfl) (OpV.s rfl) ?_
      refine D_loadW (GC.some rfl rfl) (OpV.t rfl) (fun hg => RdC.blk (by first | (with_reducible repeat (first | exact List.Mem.head _ | apply List.Mem.tail)); done | (repeat (first | exact List.Mem.head _ | apply List.Mem.tail)))) (by exact agg61) ?_
      refine D_loadW (GC.some rfl rfl) (OpV.t rfl) (fun hg => RdC.blk (by first | (with_reducible repeat (first | exact List.Mem.head _ | apply List.Mem.tail)); done | (repeat (first | exact List.Mem.head _ | apply List.Mem.tail)))) (by exact agg61) ?_
      refine D_bin (GC.some rfl rfl) (OpV.s rfl) (OpV.s rfl) (fun hg => (bv_aneq eqsh61 (EqS.consI one3 und3 rfl rfl (EqS.consI one3 und3 rfl rfl (EqS.consI one3 und3 rfl rfl (EqS.consI one3 und3 rfl rfl EqS.nil)))))) ?_
      refine D_and (cy := _) (GC.some rfl rfl) (OpV.s rfl) (OpV.s rfl) (fun h hb => ⟨h, hb⟩) ?_
      refine D_or (cy := _) GC.none (OpV.t rfl) (OpV.s rfl) (fun h hb => ⟨h, hb⟩) ?_
      refine DV_nil ?_
      refine Give_is rfl rfl ?_
      refine Give_drop rfl ?_
      refine Give_drop rfl ?_
      refine Give_drop rfl ?_
      refine Give_drop rfl ?_
      refine Give_drop rfl ?_
      refine Give_drop rfl ?_
      refine Give_drop rfl ?_
      refine Give_drop rfl ?_
      refine Give_drop rfl ?_
      refine Give_drop rfl ?_
      refine Give_drop rfl ?_
      refine Give_drop rfl ?_
      refine Give_drop rfl ?_
      refine Give_drop rfl ?_
      refine Give_drop rfl ?_
      refine Give_drop rfl ?_
      refine Give_drop rfl ?_
      refine Give_drop rfl ?_
      refine Give_drop rfl ?_
      refine Give_drop rfl ?_
      refine Give_drop rfl ?_
      refine Give_drop rfl ?_
      refine Give_drop rfl ?_
      refine Give_drop rfl ?_
      refine Give_drop rfl ?_
      refine Give_drop rfl ?_
      refine Give_drop rfl ?_
      refine Give_drop rfl ?_
      refine Give_drop rfl ?_
      refine Give_drop rfl ?_
      refine Give_drop rfl ?_
      refine Give_drop rfl ?_
      refine Give_drop rfl ?_
      refine Give_drop rfl ?_
      refine Give_drop rfl ?_
      refine Give_drop rfl ?_
      refine Give_drop rfl ?_
      refine Give_drop rfl ?_
      refine Give_drop rfl ?_
      refine Give_nil ?_
      refine W_weaken (l' := [(0, _), (3, _), (4, _), (5, _), (6, _), (7, _), (9, _), (10, _), (86, _)]) (Sub.cons rfl (Sub.cons rfl (Sub.cons rfl (Sub.cons rfl (Sub.cons rfl (Sub.cons rfl (Sub.cons rfl (Sub.cons rfl (Sub.cons rfl (Sub.nil _)))))))))) (MSub.refl _) ?_
      refine W_cond rfl (fun hc10 => ?_) (fun hc10 => ?_)
      · skip
        replace hp := cond_t hc10 hp
        refine W_seq ?_
        refine W_region ?_
        refine L_assign rfl rfl ?_
        refine L_nil ?_
        have ho := hp; clear hp; obtain ⟨a11, hp, hx_a11⟩ := map_any ho; clear ho
        obtain rfl := hx5 _ hx_a11
        obtain rfl := Option.some.inj hp
        refine W_ret ?_
        refine res1 rfl (ResOK.tmp rfl) ⟨rfl, rfl⟩ (MSub.nil _)
      · skip
        replace hp := cond_f hc10 hp
        refine W_skip ?_
        refine W_jn (σ := Int × Int) GT.dat (fun ((v12_0, v12_1) : Int × Int) => [(5, .int .i64 v12_0), (6, .int .i64 v12_1)]) (fun ((v12_0, v12_1) : Int × Int) => []) [(0, (TL.hdr a0)), (3, .pointer (some ⟨bk3, 0, none⟩)), (4, .int .i64 (IntKind.wrap .i64 (v5_0 + (y7).tmod 40))), (7, .int .i64 v5_3), (9, .pointer (some ⟨bk9, 0, none⟩))] [blk bk3 [.int .i64 v5_4, .int .i64 v5_5, .int .i64 v5_6, .int .i64 v5_7] 61, blk bk9 [.int .i64 y9x0_1, .int .i64 y9x0_2, .int .i64 y9x0_3, .int .i64 y9x0_4] 61] hp ?_ ?_
        · skip
          clear hp
          intro x12 hp hx12
          refine W_seq ?_
          refine W_region ?_
          refine L_move rfl rfl ?_
          refine L_nil ?_
          refine W_weaken (l' := [(0, _), (3, _), (4, _), (5, _), (6, _), (7, _), (9, _), (87, _)]) (Sub.cons rfl (Sub.cons rfl (Sub.cons rfl (Sub.cons rfl (Sub.cons rfl (Sub.cons rfl (Sub.cons rfl (Sub.cons rfl (Sub.nil _))))))))) (MSub.refl _) ?_
          refine W_cond rfl (fun hc13 => ?_) (fun hc13 => ?_)
          · skip
            replace hp := cond_t hc13 hp
            refine W_seq ?_
            refine W_region ?_
            refine L_fieldAddr rfl rfl fld61_3 ?_
            refine L_load rfl rfl (RdC.blk (by first | (with_reducible repeat (first | exact List.Mem.head _ | apply List.Mem.tail)); done | (repeat (first | exact List.Mem.head _ | apply List.Mem.tail)))) one3 rfl ?_
            refine L_move rfl rfl ?_
            refine L_binV rfl rfl rfl bv_sub ?_
            refine L_assign rfl rfl ?_
            refine L_nil ?_
            refine W_region ?_
            refine L_move rfl rfl ?_
            refine L_binV rfl rfl rfl bv_add ?_
            refine L_assign rfl rfl ?_
            refine L_nil ?_
            exact ⟨(IntKind.wrap .i64 (y9x0_4 - IntKind.wrap .i64 (v5_0 + (y7).tmod 40)), IntKind.wrap .i64 (v5_2 + 1)), (Sub.cons rfl (Sub.cons rfl (Sub.cons rfl (Sub.cons rfl (Sub.cons rfl (Sub.cons rfl (Sub.cons rfl (Sub.nil _)))))))), (Arr.sub (MSub.cons (by first | (with_reducible repeat (first | exact Pick.here _ | apply Pick.there)); done | (repeat (first | exact Pick.here _ | apply Pick.there))) (MSub.cons (by first | (with_reducible repeat (first | exact Pick.here _ | apply Pick.there)); done | (repeat (first | exact Pick.here _ | apply Pick.there))) (MSub.nil _)))), some_eq hp⟩
          · skip
            replace hp := cond_f hc13 hp
            refine W_skip ?_
            exact ⟨(v5_1, v5_2), (Sub.cons rfl (Sub.cons rfl (Sub.cons rfl (Sub.cons rfl (Sub.cons rfl (Sub.cons rfl (Sub.cons rfl (Sub.nil _)))))))), (Arr.sub (MSub.cons (by first | (with_reducible repeat (first | exact Pick.here _ | apply Pick.there)); done | (repeat (first | exact Pick.here _ | apply Pick.there))) (MSub.cons (by first | (with_reducible repeat (first | exact Pick.here _ | apply Pick.there)); done | (repeat (first | exact Pick.here _ | apply Pick.there))) (MSub.nil _)))), some_eq hp⟩
        · skip
          clear hp
          rintro ⟨v12_0, v12_1⟩ hp
          try dsimp only [dat_pair, dat_int, dat_bool, dat_str, dat_ar] at hp
          refine W_weaken (l' := [(0, _), (3, _), (4, _), (5, _), (6, _), (7, _), (9, _)]) (Sub.cons rfl (Sub.cons rfl (Sub.cons rfl (Sub.cons rfl (Sub.cons rfl (Sub.cons rfl (Sub.cons rfl (Sub.nil _)))))))) (M' := [_, _]) (MSub.cons (by first | (with_reducible repeat (first | exact Pick.here _ | apply Pick.there)); done | (repeat (first | exact Pick.here _ | apply Pick.there))) (MSub.cons (by first | (with_reducible repeat (first | exact Pick.here _ | apply Pick.there)); done | (repeat (first | exact Pick.here _ | apply Pick.there))) (MSub.nil _))) ?_
          refine W_seq ?_
          refine W_region ?_
          refine L_loadW rfl rfl (RdC.blk (by first | (with_reducible repeat (first | exact List.Mem.head _ | apply List.Mem.tail)); done | (repeat (first | exact List.Mem.head _ | apply List.Mem.tail)))) (by exact agg61) ?_
          refine L_storeW rfl rfl (by first | (with_reducible repeat (first | exact Pick.here _ | apply Pick.there)); done | (repeat (first | exact Pick.here _ | apply Pick.there))) (by exact agg61) (by rfl) (by first | exact allOne rfl | exact fun v hv => GT.one _ v hv | (simp [Value.oneCell', TL.hdr, Value.cells]; done)) ?_
          refine L_nil ?_
          refine W_seq ?_
          refine W_seq ?_
          refine W_region ?_
          refine L_move rfl rfl ?_
          refine L_move rfl rfl ?_
          have ho := hp; clear hp; obtain ⟨y14, hy14, hp⟩ := bind_any ho; clear ho
          refine L_callX rfl fn15 rfl (by exact fun w hw => w_at_walk w a0 v5_3 (RdT.now (RdT.old h0) hw) _ hy14) ?_
          refine L_binV rfl rfl rfl (bv_rem (by decide)) ?_
          refine L_binV rfl rfl rfl bv_eql ?_
          refine L_nil ?_
          refine W_weaken (l' := [(0, _), (3, _), (4, _), (5, _), (6, _), (7, _), (99, _)]) (Sub.cons rfl (Sub.cons rfl (Sub.cons rfl (Sub.cons rfl (Sub.cons rfl (Sub.cons rfl (Sub.cons rfl (Sub.nil _)))))))) (MSub.refl _) ?_
          refine W_cond rfl (fun hc15 => ?_) (fun hc15 => ?_)
          · skip
            replace hp := cond_t hc15 hp
            refine W_seq ?_
            refine W_region ?_
            refine L_loadW rfl rfl (RdC.blk (by first | (with_reducible repeat (first | exact List.Mem.head _ | apply List.Mem.tail)); done | (repeat (first | exact List.Mem.head _ | apply List.Mem.tail)))) (by exact agg61) ?_
            have ho := hp; clear hp; obtain ⟨y16, hy16, hp⟩ := bind_any ho; clear ho
            refine L_callR rfl fn37 rfl (by exact fun w hw => i_RetryGood_walk w (y9x0_1, y9x0_2, y9x0_3, y9x0_4) (RdT.now (RdT.pair RdT.int (RdT.pair RdT.int (RdT.pair RdT.int RdT.int))) hw) _ hy16) ?_
            rintro vy16 My16 ⟨y16x0, hvy16, hdy16, rfl⟩
            subst hvy16
            subst hdy16
            obtain ⟨y16x0_1, y16x0_2, y16x0_3, y16x0_4⟩ := y16x0
            simp only [cells_pair, cells_int, cells_bool, cells_str, cells_TL, List.cons_append, List.nil_append]
            try dsimp only [dat_pair, dat_int, dat_bool, dat_str, dat_ar] at hp
            refine L_storeW rfl rfl (by first | (with_reducible repeat (first | exact Pick.here _ | apply Pick.there)); done | (repeat (first | exact Pick.here _ | apply Pick.there))) (by exact agg61) (by rfl) (by first | exact allOne rfl | exact fun v hv => GT.one _ v hv | (simp [Value.oneCell', TL.hdr, Value.cells]; done)) ?_
            refine L_nil ?_
            refine W_seq ?_
            refine W_region ?_
            refine L_assign rfl rfl ?_
            refine L_nil ?_
            refine W_region ?_
            refine L_assign rfl rfl ?_
            refine L_nil ?_
            refine W_seq ?_
            have ho := hp; clear hp; obtain ⟨y17, hy17, hp⟩ := gb_any ho; clear ho
            refine W_D0 [108] mix (by kernel_rfl) rfl ?_
            refine D_move GC.none (OpV.t rfl) ?_
            refine D_bin GC.none (OpV.t rfl) OpV.c (fun hg => bv_gtr) ?_
            refine D_move GC.none (OpV.t rfl) ?_
            refine D_loadW (GC.some rfl rfl) (OpV.t rfl) (fun hg => RdC.blk (by first | (with_reducible repeat (first | exact List.Mem.head _ | apply List.Mem.tail)); done | (repeat (first | exact List.Mem.head _ | apply List.Mem.tail)))) (by exact agg61) ?_
            refine D_callX (GC.some rfl rfl) fn38 (OpVs.cons (OpV.s rfl) (OpVs.nil)) (by exact fun hg w F hF hM => s_RetryOk_walk w (y16x0_1, y16x0_2, y16x0_3, y16x0_4) (RdT.nowS (RdT.pair RdT.int (RdT.pair RdT.int (RdT.pair RdT.int RdT.int))) hF hM) _ (hy17 (gnot hg.2))) ?_
            refine D_not (GC.some rfl rfl) (OpV.s rfl) ?_
            refine D_or (cy := _) GC.none (OpV.t rfl) (OpV.s rfl) (fun h hb => ⟨h, hb⟩) ?_
            refine DV_nil ?_
            refine Give_is rfl rfl ?_
            refine Give_drop rfl ?_
            refine Give_drop rfl ?_
            refine Give_drop rfl ?_
            refine Give_drop rfl ?_
            refine Give_drop rfl ?_
            refine Give_drop rfl ?_
            refine Give_nil ?_
            refine W_weaken (l' := [(0, _), (3, _), (4, _), (5, _), (6, _), (7, _), (108, _)]) (Sub.cons rfl (Sub.cons rfl (Sub.cons rfl (Sub.cons rfl (Sub.cons rfl (Sub.cons rfl (Sub.cons rfl (Sub.nil _)))))))) (MSub.refl _) ?_
            refine W_cond rfl (fun hc18 => ?_) (fun hc18 => ?_)
            · skip
              replace hp := cond_t hc18 hp
              refine W_seq ?_
              refine W_region ?_
              refine L_assign rfl rfl ?_
              refine L_nil ?_
              have ho := hp; clear hp; obtain ⟨a19, hp, hx_a19⟩ := map_any ho; clear ho
              obtain rfl := hx5 _ hx_a19
              obtain rfl := Option.some.inj hp
              refine W_ret ?_
              refine res1 rfl (ResOK.tmp rfl) ⟨rfl, rfl⟩ (MSub.nil _)
            · skip
              replace hp := cond_f hc18 hp
              refine W_skip ?_
              refine W_region ?_
              refine L_move rfl rfl ?_
              refine L_binV rfl rfl rfl bv_add ?_
              refine L_assign rfl rfl ?_
              refine L_nil ?_
              exact ⟨(IntKind.wrap .i64 (v5_0 + (y7).tmod 40), 0, 0, IntKind.wrap .i64 (v5_3 + 1), y16x0_1, y16x0_2, y16x0_3, y16x0_4), (Sub.cons rfl (Sub.cons rfl (Sub.cons rfl (Sub.cons rfl (Sub.cons rfl (Sub.cons rfl (Sub.nil _))))))), (Arr.sub (MSub.cons (by first | (with_reducible repeat (first | exact Pick.here _ | apply Pick.there)); done | (repeat (first | exact Pick.here _ | apply Pick.there))) (MSub.nil _))), some_eq hp⟩
          · skip
            replace hp := cond_f hc15 hp
            refine W_skip ?_
            refine W_seq ?_
            have ho := hp; clear hp; obtain ⟨y20, hy20, hp⟩ := gb_any ho; clear ho
            refine W_D0 [108] mix (by kernel_rfl) rfl ?_
            refine D_move GC.none (OpV.t rfl) ?_
            refine D_bin GC.none (OpV.t rfl) OpV.c (fun hg => bv_gtr) ?_
            refine D_move GC.none (OpV.t rfl) ?_
            refine D_loadW (GC.some rfl rfl) (OpV.t rfl) (fun hg => RdC.blk (by first | (with_reducible repeat (first | exact List.Mem.head _ | apply List.Mem.tail)); done | (repeat (first | exact List.Mem.head _ | apply List.Mem.tail)))) (by exact agg61) ?_
            refine D_callX (GC.some rfl rfl) fn38 (OpVs.cons (OpV.s rfl) (OpVs.nil)) (by exact fun hg w F hF hM => s_RetryOk_walk w (y9x0_1, y9x0_2, y9x0_3, y9x0_4) (RdT.nowS (RdT.pair RdT.int (RdT.pair RdT.int (RdT.pair RdT.int RdT.int))) hF hM) _ (hy20 (gnot hg.2))) ?_
            refine D_not (GC.some rfl rfl) (OpV.s rfl) ?_
            refine D_or (cy := _) GC.none (OpV.t rfl) (OpV.s rfl) (fun h hb => ⟨h, hb⟩) ?_
            refine DV_nil ?_
            refine Give_is rfl rfl ?_
            refine Give_drop rfl ?_
            refine Give_drop rfl ?_
            refine Give_drop rfl ?_
            refine Give_drop rfl ?_
            refine Give_drop rfl ?_
            refine Give_drop rfl ?_
            refine Give_nil ?_
            refine W_weaken (l' := [(0, _), (3, _), (4, _), (5, _), (6, _), (7, _), (108, _)]) (Sub.cons rfl (Sub.cons rfl (Sub.cons rfl (Sub.cons rfl (Sub.cons rfl (Sub.cons rfl (Sub.cons rfl (Sub.nil _)))))))) (MSub.refl _) ?_
            refine W_cond rfl (fun hc21 => ?_) (fun hc21 => ?_)
            · skip
              replace hp := cond_t hc21 hp
              refine W_seq ?_
              refine W_region ?_
              refine L_assign rfl rfl ?_
              refine L_nil ?_
              have ho := hp; clear hp; obtain ⟨a22, hp, hx_a22⟩ := map_any ho; clear ho
              obtain rfl := hx5 _ hx_a22
              obtain rfl := Option.some.inj hp
              refine W_ret ?_
              refine res1 rfl (ResOK.tmp rfl) ⟨rfl, rfl⟩ (MSub.nil _)
            · skip
              replace hp := cond_f hc21 hp
              refine W_skip ?_
              refine W_region ?_
              refine L_move rfl rfl ?_
              refine L_binV rfl rfl rfl bv_add ?_
              refine L_assign rfl rfl ?_
              refine L_nil ?_
              exact ⟨(IntKind.wrap .i64 (v5_0 + (y7).tmod 40), v12_0, v12_1, IntKind.wrap .i64 (v5_3 + 1), y9x0_1, y9x0_2, y9x0_3, y9x0_4), (Sub.cons rfl (Sub.cons rfl (Sub.cons rfl (Sub.cons rfl (Sub.cons rfl (Sub.cons rfl (Sub.nil _))))))), (Arr.sub (MSub.cons (by first | (with_reducible repeat (first | exact Pick.here _ | apply Pick.there)); done | (repeat (first | exact Pick.here _ | apply Pick.there))) (MSub.nil _))), some_eq hp⟩
    · skip
      replace hp := cond_f hc6 hp
      refine W_exit ?_
      have ho := hp; clear hp; obtain ⟨a23, hp, hx_a23⟩ := map_any ho; clear ho
      obtain rfl := hx5 _ hx_a23
      refine W_seq ?_
      refine W_region ?_
      refine L_move rfl rfl ?_
      have ho := hp; clear hp; obtain ⟨y24, hy24, hp⟩ := bind_any ho; clear ho
      refine L_callR rfl fn39 rfl (by exact fun w hw => s_DrawRetryFail_walk w a0 (RdT.now (RdT.old h0) hw) _ hy24) ?_
      rintro vy24 My24 ⟨y24x0, y24x1, hvy24, hdy24, rfl⟩
      subst hvy24
      subst hdy24
      obtain ⟨y24x0_1, y24x0_2, y24x0_3, y24x0_4⟩ := y24x0
      simp only [cells_pair, cells_int, cells_bool, cells_str, cells_TL, List.cons_append, List.nil_append]
      try dsimp only [dat_pair, dat_int, dat_bool, dat_str, dat_ar] at hp
      refine L_move rfl rfl ?_
      refine L_extract rfl rfl rfl ?_
      refine L_extract rfl rfl rfl ?_
      refine L_alloc rfl zero61 (fun bk11 => ?_)
      refine L_storeW rfl rfl (by first | (with_reducible repeat (first | exact Pick.here _ | apply Pick.there)); done | (repeat (first | exact Pick.here _ | apply Pick.there))) (by exact agg61) (by rfl) (by first | exact allOne rfl | exact fun v hv => GT.one _ v hv | (simp [Value.oneCell', TL.hdr, Value.cells]; done)) ?_
      refine L_assign rfl rfl ?_
      refine L_nil ?_
      refine W_seq ?_
      refine W_region ?_
      refine L_loadW rfl rfl (RdC.blk (by first | (with_reducible repeat (first | exact List.Mem.head _ | apply List.Mem.tail)); done | (repeat (first | exact List.Mem.head _ | apply List.Mem.tail)))) (by exact agg61) ?_
      refine L_move rfl rfl ?_
      have ho := hp; clear hp; obtain ⟨y25, hy25, hp⟩ := bind_any ho; clear ho
      refine L_callR rfl fn36 rfl (by exact fun w hw => i_RetryFail_walk w (y24x0_1, y24x0_2, y24x0_3, y24x0_4) y24x1 (RdT.now (RdT.pair RdT.int (RdT.pair RdT.int (RdT.pair RdT.int RdT.int))) hw) _ hy25) ?_
      rintro vy25 My25 ⟨y25x0, y25x1, hvy25, hdy25, rfl⟩
      subst hvy25
      subst hdy25
      obtain ⟨y25x0_1, y25x0_2, y25x0_3, y25x0_4⟩ := y25x0
      simp only [cells_pair, cells_int, cells_bool, cells_str, cells_TL, List.cons_append, List.nil_append]
      try dsimp only [dat_pair, dat_int, dat_bool, dat_str, dat_ar] at hp
      refine L_move rfl rfl ?_
      refine L_extract rfl rfl rfl ?_
      refine L_extract rfl rfl rfl ?_
      refine L_alloc rfl zero61 (fun bk13 => ?_)
      refine L_storeW rfl rfl (by first | (with_reducible repeat (first | exact Pick.here _ | apply Pick.there)); done | (repeat (first | exact Pick.here _ | apply Pick.there))) (by exact agg61) (by rfl) (by first | exact allOne rfl | exact fun v hv => GT.one _ v hv | (simp [Value.oneCell', TL.hdr, Value.cells]; done)) ?_
      refine L_assign rfl rfl ?_
      refine L_nil ?_
      refine W_seq ?_
      refine W_region ?_
      refine L_loadW rfl rfl (RdC.blk (by first | (with_reducible repeat (first | exact List.Mem.head _ | apply List.Mem.tail)); done | (repeat (first | exact List.Mem.head _ | apply List.Mem.tail)))) (by exact agg61) ?_
      refine L_move rfl rfl ?_
      have ho := hp; clear hp; obtain ⟨y26, hy26, hp⟩ := bind_any ho; clear ho
      refine L_callR rfl fn40 rfl (by exact fun w hw => s_RetryFail_walk w (y24x0_1, y24x0_2, y24x0_3, y24x0_4) y24x1 (RdT.now (RdT.pair RdT.int (RdT.pair RdT.int (RdT.pair RdT.int RdT.int))) hw) _ hy26) ?_
      rintro vy26 My26 ⟨y26x0, y26x1, hvy26, hdy26, rfl⟩
      subst hvy26
      subst hdy26
      obtain ⟨y26x0_1, y26x0_2, y26x0_3, y26x0_4⟩ := y26x0
      simp only [cells_pair, cells_int, cells_bool, cells_str, cells_TL, List.cons_append, List.nil_append]
      try dsimp only [dat_pair, dat_int, dat_bool, dat_str, dat_ar] at hp
      refine L_move rfl rfl ?_
      refine L_extract rfl rfl rfl ?_
      refine L_extract rfl rfl rfl ?_
      refine L_alloc rfl zero61 (fun bk15 => ?_)
      refine L_storeW rfl rfl (by first | (with_reducible repeat (first | exact Pick.here _ | apply Pick.there)); done | (repeat (first | exact Pick.here _ | apply Pick.there))) (by exact agg61) (by rfl) (by first | exact allOne rfl | exact fun v hv => GT.one _ v hv | (simp [Value.oneCell', TL.hdr, Value.cells]; done)) ?_
      refine L_assign rfl rfl ?_
      refine L_nil ?_
      refine W_seq ?_
      refine W_D0 [2] mix (by kernel_rfl) rfl ?_
      refine D_move GC.none (OpV.t rfl) ?_
      refine D_move GC.none (OpV.t rfl) ?_
      refine D_bin GC.none (OpV.t rfl) (OpV.t rfl) (fun hg => (bv_beql und4)) ?_
      refine D_move GC.none (OpV.t rfl) ?_
      refine D_loadW (GC.some rfl rfl) (OpV.t rfl) (fun hg => RdC.blk (by first | (with_reducible repeat (first | exact List.Mem.head _ | apply List.Mem.tail)); done | (repeat (first | exact List.Mem.head _ | apply List.Mem.tail)))) (by exact agg61) ?_
      refine D_loadW (GC.some rfl rfl) (OpV.t rfl) (fun hg => RdC.blk (by first | (with_reducible repeat (first | exact List.Mem.head _ | apply List.Mem.tail)); done | (repeat (first | exact List.Mem.head _ | apply List.Mem.tail)))) (by exact agg61) ?_
      refine D_bin (GC.some rfl rfl) (OpV.s rfl) (OpV.s rfl) (fun hg => (bv_aeql eqsh61 (EqS.consI one3 und3 rfl rfl (EqS.consI one3 und3 rfl rfl (EqS.consI one3 und3 rfl rfl (EqS.consI one3 und3 rfl rfl EqS.nil)))))) ?_
      refine D_and (cy := _) GC.none (OpV.t rfl) (OpV.s rfl) (fun h hb => ⟨h, hb⟩) ?_
      refine D_assign GC.none (OpV.t rfl) ?_
      refine DV_nil ?_
      refine Give_is rfl rfl ?_
      refine Give_drop rfl ?_
      refine Give_drop rfl ?_
      refine Give_drop rfl ?_
      refine Give_drop rfl ?_
      refine Give_drop rfl ?_
      refine Give_drop rfl ?_
      refine Give_drop rfl ?_
      refine Give_drop rfl ?_
      refine Give_nil ?_
      obtain rfl := Option.some.inj hp
      refine W_ret ?_
      refine res1 rfl (ResOK.tmp rfl) ⟨rfl, rfl⟩ (MSub.nil _)

end Go.Proofs.SL
