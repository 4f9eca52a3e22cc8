/- Walks of functions, each with the function on data that it follows. -/
import Derived.Test.YthebgoognabinaaWM
namespace Go.Proofs.SL
open Go
abbrev D_Id := Int × Int
abbrev D_Inst := D_Id × Int × Int × Int × D_Cmd × Int × (List D_Id) × Bool
theorem fn268 : IsFn Try.prog 268 := ⟨_, Try.func268, by kernel_rfl, rfl⟩
theorem fn267 : IsFn Try.prog 267 := ⟨_, Try.func267, by kernel_rfl, rfl⟩
theorem eqsh264 : eqShape Try.prog 264 = some [(3, 0), (3, 1)] := by kernel_rfl
theorem fn88 : IsFn Try.prog 88 := ⟨_, Try.func88, by kernel_rfl, rfl⟩
theorem fn269 : IsFn Try.prog 269 := ⟨_, Try.func269, by kernel_rfl, rfl⟩
theorem fn270 : IsFn Try.prog 270 := ⟨_, Try.func270, by kernel_rfl, rfl⟩
theorem fn266 : IsFn Try.prog 266 := ⟨_, Try.func266, by kernel_rfl, rfl⟩
theorem fn277 : IsFn Try.prog 277 := ⟨_, Try.func277, by kernel_rfl, rfl⟩
theorem fn276 : IsFn Try.prog 276 := ⟨_, Try.func276, by kernel_rfl, rfl⟩
theorem fn333 : IsFn Try.prog 333 := ⟨_, Try.func333, by kernel_rfl, rfl⟩
theorem fn180 : IsFn Try.prog 180 := ⟨_, Try.func180, by kernel_rfl, rfl⟩
theorem fn318 : IsFn Try.prog 318 := ⟨_, Try.func318, by kernel_rfl, rfl⟩
theorem fn319 : IsFn Try.prog 319 := ⟨_, Try.func319, by kernel_rfl, rfl⟩
theorem fn275 : IsFn Try.prog 275 := ⟨_, Try.func275, by kernel_rfl, rfl⟩
noncomputable def s_l8Id (a0 : D_Id) : Option Bool :=
  Option.bind (s_l1In a0.1 0 2) (fun y1 => gb y1 (s_l1In a0.2 1 6) (fun y2 => some (y1 && y2)))

theorem s_l8Id_walk (w : World) (a0 : T_Id) (h0 : GT.rd w [] a0) (r : Bool) (hp : s_l8Id (GT.dat a0) = some r) : Spec Try.prog 268 [.agg (GT.cells a0).toArray].toArray w [] (IsV (.bool r)) := by
  obtain ⟨a0_1, a0_2⟩ := a0
  change Spec _ _ ([Value.agg #[.int .i64 a0_1, .int .i64 a0_2]] : List Value).toArray w [] _
  refine Spec.intro Try.func268 rfl Try.ntmps268 rfl ?_
  unfold s_l8Id at hp
  try dsimp only [dat_pair, dat_int, dat_bool, dat_str] at hp
  refine W_seq ?_
  refine W_region ?_
  refine L_box rfl rfl (fun bk1 => ?_)
  refine L_assign rfl rfl ?_
  refine L_nil ?_
  refine W_seq ?_
  have ho := hp; clear hp; obtain ⟨y1, hy1, hp⟩ := bind_any ho; clear ho
  have ho := hp; clear hp; obtain ⟨y2, hy2, hp⟩ := gb_any ho; clear ho
  refine W_D0 [2] mix (by kernel_rfl) rfl ?_
  refine D_fieldAddr GC.none (OpV.t rfl) fld264_0 ?_
  refine D_load GC.none (OpV.t rfl) (fun hg => RdC.blk (by first | (with_reducible repeat (first | exact List.Mem.head _ | apply List.Mem.tail)); done | (repeat (first | exact List.Mem.head _ | apply List.Mem.tail)))) one3 rfl ?_
  refine D_callX GC.none fn123 (OpVs.cons (OpV.t rfl) (OpVs.cons OpV.c (OpVs.cons OpV.c (OpVs.nil)))) (by exact fun hg w F hF hM => s_l1In_walk w a0_1 0 2  _ hy1) ?_
  refine D_move GC.none (OpV.t rfl) ?_
  refine D_fieldAddr (GC.some rfl rfl) (OpV.t rfl) fld264_1 ?_
  refine D_load (GC.some rfl rfl) (OpV.s rfl) (fun hg => RdC.blk (by first | (with_reducible repeat (first | exact List.Mem.head _ | apply List.Mem.tail)); done | (repeat (first | exact List.Mem.head _ | apply List.Mem.tail)))) one3 rfl ?_
  refine D_callX (GC.some rfl rfl) fn123 (OpVs.cons (OpV.s rfl) (OpVs.cons OpV.c (OpVs.cons OpV.c (OpVs.nil)))) (by exact fun hg w F hF hM => s_l1In_walk w a0_2 1 6  _ (hy2 hg.2)) ?_
  refine D_and (cy := _) GC.none (OpV.t rfl) (OpV.s rfl) (fun h hb => ⟨h, hb⟩) ?_
  refine D_assign GC.none (OpV.t rfl) ?_
  refine DV_nil ?_
  refine Give_is rfl rfl ?_
  refine Give_drop rfl ?_
  refine Give_drop rfl ?_
  refine Give_drop rfl ?_
  refine Give_drop rfl ?_
  refine Give_drop rfl ?_
  refine Give_drop rfl ?_
  refine Give_drop rfl ?_
  refine Give_drop rfl ?_
  refine Give_nil ?_
  obtain rfl := Option.some.inj hp
  refine W_ret ?_
  refine res1 rfl (ResOK.tmp rfl) ⟨rfl, rfl⟩ (MSub.nil _)

noncomputable def s_l8Less (a0 : D_Id) (a1 : D_Id) : Option Bool :=
  some ((decide (a0.1 < a1.1)) || ((decide (a0.1 = a1.1)) && (decide (a0.2 < a1.2))))

theorem s_l8Less_walk (w : World) (a0 : T_Id) (a1 : T_Id) (h0 : GT.rd w [] a0) (h1 : GT.rd w [] a1) (r : Bool) (hp : s_l8Less (GT.dat a0) (GT.dat a1) = some r) : Spec Try.prog 267 [.agg (GT.cells a0).toArray, .agg (GT.cells a1).toArray].toArray w [] (IsV (.bool r)) := by
  obtain ⟨a0_1, a0_2⟩ := a0
  obtain ⟨a1_1, a1_2⟩ := a1
  change Spec _ _ ([Value.agg #[.int .i64 a0_1, .int .i64 a0_2], Value.agg #[.int .i64 a1_1, .int .i64 a1_2]] : List Value).toArray w [] _
  refine Spec.intro Try.func267 rfl Try.ntmps267 rfl ?_
  unfold s_l8Less at hp
  try dsimp only [dat_pair, dat_int, dat_bool, dat_str] at hp
  refine W_seq ?_
  refine W_region ?_
  refine L_box rfl rfl (fun bk2 => ?_)
  refine L_box rfl rfl (fun bk3 => ?_)
  refine L_assign rfl rfl ?_
  refine L_nil ?_
  refine W_seq ?_
  refine W_D0 [4] mix (by kernel_rfl) rfl ?_
  refine D_fieldAddr GC.none (OpV.t rfl) fld264_0 ?_
  refine D_load GC.none (OpV.t rfl) (fun hg => RdC.blk (by first | (with_reducible repeat (first | exact List.Mem.head _ | apply List.Mem.tail)); done | (repeat (first | exact List.Mem.head _ | apply List.Mem.tail)))) one3 rfl ?_
  refine D_fieldAddr GC.none (OpV.t rfl) fld264_0 ?_
  refine D_load GC.none (OpV.t rfl) (fun hg => RdC.blk (by first | (with_reducible repeat (first | exact List.Mem.head _ | apply List.Mem.tail)); done | (repeat (first | exact List.Mem.head _ | apply List.Mem.tail)))) one3 rfl ?_
  refine D_bin GC.none (OpV.t rfl) (OpV.t rfl) (fun hg => bv_lss) ?_
  refine D_move GC.none (OpV.t rfl) ?_
  refine D_fieldAddr (GC.some rfl rfl) (OpV.t rfl) fld264_0 ?_
  refine D_load (GC.some rfl rfl) (OpV.s rfl) (fun hg => RdC.blk (by first | (with_reducible repeat (first | exact List.Mem.head _ | apply List.Mem.tail)); done | (repeat (first | exact List.Mem.head _ | apply List.Mem.tail)))) one3 rfl ?_
  refine D_fieldAddr (GC.some rfl rfl) (OpV.t rfl) fld264_0 ?_
  refine D_load (GC.some rfl rfl) (OpV.s rfl) (fun hg => RdC.blk (by first | (with_reducible repeat (first | exact List.Mem.head _ | apply List.Mem.tail)); done | (repeat (first | exact List.Mem.head _ | apply List.Mem.tail)))) one3 rfl ?_
  refine D_bin (GC.some rfl rfl) (OpV.s rfl) (OpV.s rfl) (fun hg => bv_eql) ?_
  refine D_move (GC.some rfl rfl) (OpV.s rfl) ?_
  refine D_fieldAddr (GC.some rfl rfl) (OpV.t rfl) fld264_1 ?_
  refine D_load (GC.some rfl rfl) (OpV.s rfl) (fun hg => RdC.blk (by first | (with_reducible repeat (first | exact List.Mem.head _ | apply List.Mem.tail)); done | (repeat (first | exact List.Mem.head _ | apply List.Mem.tail)))) one3 rfl ?_
  refine D_fieldAddr (GC.some rfl rfl) (OpV.t rfl) fld264_1 ?_
  refine D_load (GC.some rfl rfl) (OpV.s rfl) (fun hg => RdC.blk (by first | (with_reducible repeat (first | exact List.Mem.head _ | apply List.Mem.tail)); done | (repeat (first | exact List.Mem.head _ | apply List.Mem.tail)))) one3 rfl ?_
  refine D_bin (GC.some rfl rfl) (OpV.s rfl) (OpV.s rfl) (fun hg => bv_lss) ?_
  refine D_and (cy := _) (GC.some rfl rfl) (OpV.s rfl) (OpV.s rfl) (fun h hb => ⟨h, hb⟩) ?_
  refine D_or (cy := _) GC.none (OpV.t rfl) (OpV.s rfl) (fun h hb => ⟨h, hb⟩) ?_
  refine D_assign GC.none (OpV.t rfl) ?_
  refine DV_nil ?_
  refine Give_is rfl rfl ?_
  refine Give_drop rfl ?_
  refine Give_drop rfl ?_
  refine Give_drop rfl ?_
  refine Give_drop rfl ?_
  refine Give_drop rfl ?_
  refine Give_drop rfl ?_
  refine Give_drop rfl ?_
  refine Give_drop rfl ?_
  refine Give_drop rfl ?_
  refine Give_drop rfl ?_
  refine Give_drop rfl ?_
  refine Give_drop rfl ?_
  refine Give_drop rfl ?_
  refine Give_drop rfl ?_
  refine Give_drop rfl ?_
  refine Give_drop rfl ?_
  refine Give_drop rfl ?_
  refine Give_drop rfl ?_
  refine Give_drop rfl ?_
  refine Give_nil ?_
  obtain rfl := Option.some.inj hp
  refine W_ret ?_
  refine res1 rfl (ResOK.tmp rfl) ⟨rfl, rfl⟩ (MSub.nil _)

noncomputable def s_IdsOk (a0 : List D_Id) : Option Bool :=
  whileP (fun s1 : Int => cond (decide (s1 < (a0.length : Int))) (Option.bind (idx a0 s1) (fun y3 => Option.bind (s_l8Id (y3.1, y3.2)) (fun y4 => gb ((!(!y4)) && (decide (0 < s1))) (idx a0 (IntKind.wrap .i64 (s1 - 1))) (fun y5 => gb ((!(!y4)) && (decide (0 < s1))) (idx a0 s1) (fun y6 => gb ((!(!y4)) && (decide (0 < s1))) (s_l8Less (y5.1, y5.2) (y6.1, y6.2)) (fun y7 => cond ((!y4) || ((decide (0 < s1)) && (!y7))) (Option.map .inr (some false)) (some (.inl (IntKind.wrap .i64 (s1 + 1)))))))))) (Option.map .inr (some true))) 0

theorem s_IdsOk_walk (w : World) (a0 : TL T_Id) (h0 : GT.rd w [] a0) (r : Bool) (hp : s_IdsOk (GT.dat a0) = some r) : Spec Try.prog 269 [(TL.hdr a0)].toArray w [] (IsV (.bool r)) := by
  refine Spec.intro Try.func269 rfl Try.ntmps269 rfl ?_
  unfold s_IdsOk at hp
  try dsimp only [dat_pair, dat_int, dat_bool, dat_str] at hp
  refine W_seq ?_
  refine W_region ?_
  refine L_assign rfl rfl ?_
  refine L_nil ?_
  refine W_seq ?_
  refine W_seq ?_
  refine W_region ?_
  refine L_assign rfl rfl ?_
  refine L_nil ?_
  refine W_block ?_
  refine W_while (σ := Int) GT.dat (fun (v1_0 : Int) => [(3, .int .i64 v1_0)]) (fun (v1_0 : Int) => []) [(0, _)] [] 0 hp (Sub.cons rfl (Sub.cons rfl (Sub.nil _))) (MSub.nil _) ?_
  clear hp
  rintro v1_0 x1 hp hx1
  try dsimp only [dat_pair, dat_int, dat_bool, dat_str] at hp
  refine W_weaken (l' := [(0, _), (3, _)]) (Sub.cons rfl (Sub.cons rfl (Sub.nil _))) (M' := []) (MSub.nil _) ?_
  refine W_seq ?_
  refine W_seq ?_
  refine W_region ?_
  refine L_move rfl rfl ?_
  refine L_move rfl rfl ?_
  refine L_lenP (X := a0) rfl rfl el265 ?_
  refine L_binV rfl rfl rfl bv_lss ?_
  refine L_nil ?_
  refine W_weaken (l' := [(0, _), (3, _), (7, _)]) (Sub.cons rfl (Sub.cons rfl (Sub.cons rfl (Sub.nil _)))) (MSub.refl _) ?_
  refine W_cond rfl (fun hc2 => ?_) (fun hc2 => ?_)
  · skip
    replace hp := cond_t hc2 hp
    refine W_skip ?_
    refine W_seq ?_
    refine W_block ?_
    refine W_seq ?_
    have ho := hp; clear hp; obtain ⟨u3, hy3, hp⟩ := idx_bind ho; clear ho
    obtain ⟨u3_1, u3_2⟩ := u3
    have ho := hp; clear hp; obtain ⟨y4, hy4, hp⟩ := bind_any ho; clear ho
    have ho := hp; clear hp; obtain ⟨u5, hy5, hp⟩ := idx_gb ho; clear ho
    obtain ⟨u5_1, u5_2⟩ := u5
    have ho := hp; clear hp; obtain ⟨u6, hy6, hp⟩ := idx_gb ho; clear ho
    obtain ⟨u6_1, u6_2⟩ := u6
    have ho := hp; clear hp; obtain ⟨y7, hy7, hp⟩ := gb_any ho; clear ho
    refine W_D0 [32] mix (by kernel_rfl) rfl ?_
    refine D_move GC.none (OpV.t rfl) ?_
    refine D_move GC.none (OpV.t rfl) ?_
    refine D_idxA (X := a0) GC.none (OpV.t rfl) (OpV.t rfl) el265 (RdT.old h0) (fun _ => hy3) ?_
    refine D_loadW GC.none (OpV.t rfl) (fun hg => RdT.at (RdT.old h0) (hy3).2) (by exact agg264) ?_
    refine D_callX GC.none fn268 (OpVs.cons (OpV.t rfl) (OpVs.nil)) (by exact fun hg w F hF hM => s_l8Id_walk w (u3_1, u3_2) (RdT.nowS (RdT.pair RdT.int RdT.int) hF hM) _ hy4) ?_
    refine D_not GC.none (OpV.t rfl) ?_
    refine D_move GC.none (OpV.t rfl) ?_
    refine D_move (GC.some rfl rfl) (OpV.t rfl) ?_
    refine D_bin (GC.some rfl rfl) (OpV.s rfl) OpV.c (fun hg => bv_gtr) ?_
    refine D_move (GC.some rfl rfl) (OpV.s rfl) ?_
    refine D_move (GC.some rfl rfl) (OpV.t rfl) ?_
    refine D_move (GC.some rfl rfl) (OpV.t rfl) ?_
    refine D_bin (GC.some rfl rfl) (OpV.s rfl) OpV.c (fun hg => bv_sub) ?_
    refine D_idxA (X := a0) (GC.some rfl rfl) (OpV.s rfl) (OpV.s rfl) el265 (RdT.old h0) (fun hg => hy5 (gand (gnot hg.1.2) hg.2)) ?_
    refine D_loadW (GC.some rfl rfl) (OpV.s rfl) (fun hg => RdT.at (RdT.old h0) (hy5 (gand (gnot hg.1.2) hg.2)).2) (by exact agg264) ?_
    refine D_move (GC.some rfl rfl) (OpV.t rfl) ?_
    refine D_move (GC.some rfl rfl) (OpV.t rfl) ?_
    refine D_idxA (X := a0) (GC.some rfl rfl) (OpV.s rfl) (OpV.s rfl) el265 (RdT.old h0) (fun hg => hy6 (gand (gnot hg.1.2) hg.2)) ?_
    refine D_loadW (GC.some rfl rfl) (OpV.s rfl) (fun hg => RdT.at (RdT.old h0) (hy6 (gand (gnot hg.1.2) hg.2)).2) (by exact agg264) ?_
    refine D_callX (GC.some rfl rfl) fn267 (OpVs.cons (OpV.s rfl) (OpVs.cons (OpV.s rfl) (OpVs.nil))) (by exact fun hg w F hF hM => s_l8Less_walk w (u5_1, u5_2) (u6_1, u6_2) (RdT.nowS (RdT.pair RdT.int RdT.int) hF hM) (RdT.nowS (RdT.pair RdT.int RdT.int) hF hM) _ (hy7 (gand (gnot hg.1.2) hg.2))) ?_
    refine D_not (GC.some rfl rfl) (OpV.s rfl) ?_
    refine D_and (cy := _) (GC.some rfl rfl) (OpV.s rfl) (OpV.s rfl) (fun h hb => ⟨h, hb⟩) ?_
    refine D_or (cy := _) GC.none (OpV.t rfl) (OpV.s rfl) (fun h hb => ⟨h, hb⟩) ?_
    refine DV_nil ?_
    refine Give_is rfl rfl ?_
    refine Give_drop rfl ?_
    refine Give_drop rfl ?_
    refine Give_drop rfl ?_
    refine Give_drop rfl ?_
    refine Give_drop rfl ?_
    refine Give_drop rfl ?_
    refine Give_drop rfl ?_
    refine Give_drop rfl ?_
    refine Give_drop rfl ?_
    refine Give_drop rfl ?_
    refine Give_drop rfl ?_
    refine Give_drop rfl ?_
    refine Give_drop rfl ?_
    refine Give_drop rfl ?_
    refine Give_drop rfl ?_
    refine Give_drop rfl ?_
    refine Give_drop rfl ?_
    refine Give_drop rfl ?_
    refine Give_drop rfl ?_
    refine Give_drop rfl ?_
    refine Give_drop rfl ?_
    refine Give_drop rfl ?_
    refine Give_nil ?_
    refine W_weaken (l' := [(0, _), (3, _), (32, _)]) (Sub.cons rfl (Sub.cons rfl (Sub.cons rfl (Sub.nil _)))) (MSub.refl _) ?_
    refine W_cond rfl (fun hc8 => ?_) (fun hc8 => ?_)
    · skip
      replace hp := cond_t hc8 hp
      refine W_seq ?_
      refine W_region ?_
      refine L_assign rfl rfl ?_
      refine L_nil ?_
      have ho := hp; clear hp; obtain ⟨a9, hp, hx_a9⟩ := map_any ho; clear ho
      obtain rfl := hx1 _ hx_a9
      obtain rfl := Option.some.inj hp
      refine W_ret ?_
      refine res1 rfl (ResOK.tmp rfl) ⟨rfl, rfl⟩ (MSub.nil _)
    · skip
      replace hp := cond_f hc8 hp
      refine W_skip ?_
      refine W_region ?_
      refine L_move rfl rfl ?_
      refine L_binV rfl rfl rfl bv_add ?_
      refine L_assign rfl rfl ?_
      refine L_nil ?_
      exact ⟨IntKind.wrap .i64 (v1_0 + 1), (Sub.cons rfl (Sub.cons rfl (Sub.nil _))), (Arr.sub (MSub.nil _)), some_eq hp⟩
  · skip
    replace hp := cond_f hc2 hp
    refine W_exit ?_
    have ho := hp; clear hp; obtain ⟨a10, hp, hx_a10⟩ := map_any ho; clear ho
    obtain rfl := hx1 _ hx_a10
    refine W_seq ?_
    refine W_region ?_
    refine L_assign rfl rfl ?_
    refine L_nil ?_
    obtain rfl := Option.some.inj hp
    refine W_ret ?_
    refine res1 rfl (ResOK.tmp rfl) ⟨rfl, rfl⟩ (MSub.nil _)

noncomputable def s_l8Has (a0 : List D_Id) (a1 : D_Id) : Option Bool :=
  whileP (fun s1 : Int => cond (decide (s1 < (a0.length : Int))) (Option.bind (idx a0 s1) (fun y3 => cond (decide (y3.1 = a1.1) && (decide (y3.2 = a1.2) && true)) (Option.map .inr (some true)) (some (.inl (IntKind.wrap .i64 (s1 + 1)))))) (Option.map .inr (some false))) 0

theorem s_l8Has_walk (w : World) (a0 : TL T_Id) (a1 : T_Id) (h0 : GT.rd w [] a0) (h1 : GT.rd w [] a1) (r : Bool) (hp : s_l8Has (GT.dat a0) (GT.dat a1) = some r) : Spec Try.prog 270 [(TL.hdr a0), .agg (GT.cells a1).toArray].toArray w [] (IsV (.bool r)) := by
  obtain ⟨a1_1, a1_2⟩ := a1
  change Spec _ _ ([(TL.hdr a0), Value.agg #[.int .i64 a1_1, .int .i64 a1_2]] : List Value).toArray w [] _
  refine Spec.intro Try.func270 rfl Try.ntmps270 rfl ?_
  unfold s_l8Has at hp
  try dsimp only [dat_pair, dat_int, dat_bool, dat_str] at hp
  refine W_seq ?_
  refine W_region ?_
  refine L_box rfl rfl (fun bk3 => ?_)
  refine L_assign rfl rfl ?_
  refine L_nil ?_
  refine W_seq ?_
  refine W_seq ?_
  refine W_region ?_
  refine L_assign rfl rfl ?_
  refine L_nil ?_
  refine W_block ?_
  refine W_while (σ := Int) GT.dat (fun (v1_0 : Int) => [(5, .int .i64 v1_0)]) (fun (v1_0 : Int) => []) [(0, _), (3, _)] [blk bk3 _ _] 0 hp (Sub.cons rfl (Sub.cons rfl (Sub.cons rfl (Sub.nil _)))) (MSub.cons (by first | (with_reducible repeat (first | exact Pick.here _ | apply Pick.there)); done | (repeat (first | exact Pick.here _ | apply Pick.there))) (MSub.nil _)) ?_
  clear hp
  rintro v1_0 x1 hp hx1
  try dsimp only [dat_pair, dat_int, dat_bool, dat_str] at hp
  refine W_weaken (l' := [(0, _), (3, _), (5, _)]) (Sub.cons rfl (Sub.cons rfl (Sub.cons rfl (Sub.nil _)))) (M' := [_]) (MSub.cons (by first | (with_reducible repeat (first | exact Pick.here _ | apply Pick.there)); done | (repeat (first | exact Pick.here _ | apply Pick.there))) (MSub.nil _)) ?_
  refine W_seq ?_
  refine W_seq ?_
  refine W_region ?_
  refine L_move rfl rfl ?_
  refine L_move rfl rfl ?_
  refine L_lenP (X := a0) rfl rfl el265 ?_
  refine L_binV rfl rfl rfl bv_lss ?_
  refine L_nil ?_
  refine W_weaken (l' := [(0, _), (3, _), (5, _), (9, _)]) (Sub.cons rfl (Sub.cons rfl (Sub.cons rfl (Sub.cons rfl (Sub.nil _))))) (MSub.refl _) ?_
  refine W_cond rfl (fun hc2 => ?_) (fun hc2 => ?_)
  · skip
    replace hp := cond_t hc2 hp
    refine W_skip ?_
    refine W_seq ?_
    refine W_block ?_
    refine W_seq ?_
    have ho := hp; clear hp; obtain ⟨u3, hy3, hp⟩ := idx_bind ho; clear ho
    obtain ⟨u3_1, u3_2⟩ := u3
    refine W_D0 [17] mix (by kernel_rfl) rfl ?_
    refine D_move GC.none (OpV.t rfl) ?_
    refine D_move GC.none (OpV.t rfl) ?_
    refine D_idxA (X := a0) GC.none (OpV.t rfl) (OpV.t rfl) el265 (RdT.old h0) (fun _ => hy3) ?_
    refine D_loadW GC.none (OpV.t rfl) (fun hg => RdT.at (RdT.old h0) (hy3).2) (by exact agg264) ?_
    refine D_loadW GC.none (OpV.t rfl) (fun hg => RdC.blk (by first | (with_reducible repeat (first | exact List.Mem.head _ | apply List.Mem.tail)); done | (repeat (first | exact List.Mem.head _ | apply List.Mem.tail)))) (by exact agg264) ?_
    refine D_bin GC.none (OpV.t rfl) (OpV.t rfl) (fun hg => (bv_aeql eqsh264 (EqS.consI one3 und3 rfl rfl (EqS.consI one3 und3 rfl rfl EqS.nil)))) ?_
    refine DV_nil ?_
    refine Give_is rfl rfl ?_
    refine Give_drop rfl ?_
    refine Give_drop rfl ?_
    refine Give_drop rfl ?_
    refine Give_drop rfl ?_
    refine Give_drop rfl ?_
    refine Give_nil ?_
    refine W_weaken (l' := [(0, _), (3, _), (5, _), (17, _)]) (Sub.cons rfl (Sub.cons rfl (Sub.cons rfl (Sub.cons rfl (Sub.nil _))))) (MSub.refl _) ?_
    refine W_cond rfl (fun hc4 => ?_) (fun hc4 => ?_)
    · skip
      replace hp := cond_t hc4 hp
      refine W_seq ?_
      refine W_region ?_
      refine L_assign rfl rfl ?_
      refine L_nil ?_
      have ho := hp; clear hp; obtain ⟨a5, hp, hx_a5⟩ := map_any ho; clear ho
      obtain rfl := hx1 _ hx_a5
      obtain rfl := Option.some.inj hp
      refine W_ret ?_
      refine res1 rfl (ResOK.tmp rfl) ⟨rfl, rfl⟩ (MSub.nil _)
    · skip
      replace hp := cond_f hc4 hp
      refine W_skip ?_
      refine W_region ?_
      refine L_move rfl rfl ?_
      refine L_binV rfl rfl rfl bv_add ?_
      refine L_assign rfl rfl ?_
      refine L_nil ?_
      exact ⟨IntKind.wrap .i64 (v1_0 + 1), (Sub.cons rfl (Sub.cons rfl (Sub.cons rfl (Sub.nil _)))), (Arr.sub (MSub.cons (by first | (with_reducible repeat (first | exact Pick.here _ | apply Pick.there)); done | (repeat (first | exact Pick.here _ | apply Pick.there))) (MSub.nil _))), some_eq hp⟩
  · skip
    replace hp := cond_f hc2 hp
    refine W_exit ?_
    have ho := hp; clear hp; obtain ⟨a6, hp, hx_a6⟩ := map_any ho; clear ho
    obtain rfl := hx1 _ hx_a6
    refine W_seq ?_
    refine W_region ?_
    refine L_assign rfl rfl ?_
    refine L_nil ?_
    obtain rfl := Option.some.inj hp
    refine W_ret ?_
    refine res1 rfl (ResOK.tmp rfl) ⟨rfl, rfl⟩ (MSub.nil _)

noncomputable def s_l8Inst (a0 : D_Inst) : Option Bool :=
  Option.bind (s_l8Id (a0.1.1, a0.1.2)) (fun y1 => gb (!(!y1)) (s_l1In a0.2.1 (-1) 600) (fun y2 => gb (!((!y1) || (!y2))) (s_l1In a0.2.2.1 (-1) a0.2.1) (fun y3 => gb (!(((!y1) || (!y2)) || (!y3))) (s_l1In a0.2.2.2.1 0 3) (fun y4 => gb (!((((!y1) || (!y2)) || (!y3)) || (!y4))) (s_CmdOk (a0.2.2.2.2.1.1, a0.2.2.2.2.1.2.1, a0.2.2.2.2.1.2.2.1, a0.2.2.2.2.1.2.2.2.1, a0.2.2.2.2.1.2.2.2.2.1, a0.2.2.2.2.1.2.2.2.2.2.1, a0.2.2.2.2.1.2.2.2.2.2.2.1, a0.2.2.2.2.1.2.2.2.2.2.2.2)) (fun y5 => gb (!(((((!y1) || (!y2)) || (!y3)) || (!y4)) || (!y5))) (s_l1In a0.2.2.2.2.2.1 0 60) (fun y6 => gb (!((((((!y1) || (!y2)) || (!y3)) || (!y4)) || (!y5)) || (!y6))) (s_IdsOk a0.2.2.2.2.2.2.1) (fun y7 => gb (!(((((((!y1) || (!y2)) || (!y3)) || (!y4)) || (!y5)) || (!y6)) || (!y7))) (s_l8Has a0.2.2.2.2.2.2.1 (a0.1.1, a0.1.2)) (fun y8 => cond ((((((((!y1) || (!y2)) || (!y3)) || (!y4)) || (!y5)) || (!y6)) || (!y7)) || y8) (some false) (some ((!decide (a0.2.2.2.1 = 0)) || (((((decide (a0.2.2.1 = (-1))) && (decide (a0.2.2.2.2.1.1 = 0))) && (decide (a0.2.2.2.2.2.1 = 0))) && (decide ((a0.2.2.2.2.2.2.1.length : Int) = 0))) && (!a0.2.2.2.2.2.2.2))))))))))))

theorem s_l8Inst_walk (w : World) (a0 : T_Inst) (h0 : GT.rd w [] a0) (r : Bool) (hp : s_l8Inst (GT.dat a0) = some r) : Spec Try.prog 266 [.agg (GT.cells a0).toArray].toArray w [] (IsV (.bool r)) := by
  obtain ⟨⟨a0_1, a0_2⟩, a0_3, a0_4, a0_5, ⟨a0_6, a0_7, a0_8, a0_9, a0_10, a0_11, a0_12, a0_13⟩, a0_14, a0_15, a0_16⟩ := a0
  change Spec _ _ ([Value.agg #[.int .i64 a0_1, .int .i64 a0_2, .int .i64 a0_3, .int .i64 a0_4, .int .i64 a0_5, .int .i64 a0_6, .int .i64 a0_7, .int .i64 a0_8, .string a0_9, .string a0_10, .string a0_11, .int .i64 a0_12, (TL.hdr a0_13), .int .i64 a0_14, (TL.hdr a0_15), .bool a0_16]] : List Value).toArray w [] _
  refine Spec.intro Try.func266 rfl Try.ntmps266 rfl ?_
  unfold s_l8Inst at hp
  try dsimp only [dat_pair, dat_int, dat_bool, dat_str] at hp
  refine W_seq ?_
  refine W_region ?_
  refine L_box rfl rfl (fun bk1 => ?_)
  refine L_assign rfl rfl ?_
  refine L_nil ?_
  refine W_seq ?_
  refine W_seq ?_
  have ho := hp; clear hp; obtain ⟨y1, hy1, hp⟩ := bind_any ho; clear ho
  have ho := hp; clear hp; obtain ⟨y2, hy2, hp⟩ := gb_any ho; clear ho
  have ho := hp; clear hp; obtain ⟨y3, hy3, hp⟩ := gb_any ho; clear ho
  have ho := hp; clear hp; obtain ⟨y4, hy4, hp⟩ := gb_any ho; clear ho
  have ho := hp; clear hp; obtain ⟨y5, hy5, hp⟩ := gb_any ho; clear ho
  have ho := hp; clear hp; obtain ⟨y6, hy6, hp⟩ := gb_any ho; clear ho
  have ho := hp; clear hp; obtain ⟨y7, hy7, hp⟩ := gb_any ho; clear ho
  have ho := hp; clear hp; obtain ⟨y8, hy8, hp⟩ := gb_any ho; clear ho
  refine W_D0 [51] mix (by kernel_rfl) rfl ?_
  refine D_fieldAddr GC.none (OpV.t rfl) fld267_0 ?_
  refine D_loadW GC.none (OpV.t rfl) (fun hg => RdC.seg (RdC.blk (by first | (with_reducible repeat (first | exact List.Mem.head _ | apply List.Mem.tail)); done | (repeat (first | exact List.Mem.head _ | apply List.Mem.tail)))) 0 2 rfl) (by exact agg264) ?_
  refine D_callX GC.none fn268 (OpVs.cons (OpV.t rfl) (OpVs.nil)) (by exact fun hg w F hF hM => s_l8Id_walk w (a0_1, a0_2) (RdT.nowS (RdT.pair RdT.int RdT.int) hF hM) _ hy1) ?_
  refine D_not GC.none (OpV.t rfl) ?_
  refine D_move GC.none (OpV.t rfl) ?_
  refine D_fieldAddr (GC.some rfl rfl) (OpV.t rfl) fld267_1 ?_
  refine D_load (GC.some rfl rfl) (OpV.s rfl) (fun hg => RdC.blk (by first | (with_reducible repeat (first | exact List.Mem.head _ | apply List.Mem.tail)); done | (repeat (first | exact List.Mem.head _ | apply List.Mem.tail)))) one3 rfl ?_
  refine D_callX (GC.some rfl rfl) fn123 (OpVs.cons (OpV.s rfl) (OpVs.cons OpV.c (OpVs.cons OpV.c (OpVs.nil)))) (by exact fun hg w F hF hM => s_l1In_walk w a0_3 (-1) 600  _ (hy2 (gnot hg.2))) ?_
  refine D_not (GC.some rfl rfl) (OpV.s rfl) ?_
  refine D_or (cy := _) GC.none (OpV.t rfl) (OpV.s rfl) (fun h hb => ⟨h, hb⟩) ?_
  refine D_move GC.none (OpV.t rfl) ?_
  refine D_fieldAddr (GC.some rfl rfl) (OpV.t rfl) fld267_2 ?_
  refine D_load (GC.some rfl rfl) (OpV.s rfl) (fun hg => RdC.blk (by first | (with_reducible repeat (first | exact List.Mem.head _ | apply List.Mem.tail)); done | (repeat (first | exact List.Mem.head _ | apply List.Mem.tail)))) one3 rfl ?_
  refine D_fieldAddr (GC.some rfl rfl) (OpV.t rfl) fld267_1 ?_
  refine D_load (GC.some rfl rfl) (OpV.s rfl) (fun hg => RdC.blk (by first | (with_reducible repeat (first | exact List.Mem.head _ | apply List.Mem.tail)); done | (repeat (first | exact List.Mem.head _ | apply List.Mem.tail)))) one3 rfl ?_
  refine D_callX (GC.some rfl rfl) fn123 (OpVs.cons (OpV.s rfl) (OpVs.cons OpV.c (OpVs.cons (OpV.s rfl) (OpVs.nil)))) (by exact fun hg w F hF hM => s_l1In_walk w a0_4 (-1) a0_3  _ (hy3 (gnot hg.2))) ?_
  refine D_not (GC.some rfl rfl) (OpV.s rfl) ?_
  refine D_or (cy := _) GC.none (OpV.t rfl) (OpV.s rfl) (fun h hb => ⟨h, hb⟩) ?_
  refine D_move GC.none (OpV.t rfl) ?_
  refine D_fieldAddr (GC.some rfl rfl) (OpV.t rfl) fld267_3 ?_
  refine D_load (GC.some rfl rfl) (OpV.s rfl) (fun hg => RdC.blk (by first | (with_reducible repeat (first | exact List.Mem.head _ | apply List.Mem.tail)); done | (repeat (first | exact List.Mem.head _ | apply List.Mem.tail)))) one3 rfl ?_
  refine D_callX (GC.some rfl rfl) fn123 (OpVs.cons (OpV.s rfl) (OpVs.cons OpV.c (OpVs.cons OpV.c (OpVs.nil)))) (by exact fun hg w F hF hM => s_l1In_walk w a0_5 0 3  _ (hy4 (gnot hg.2))) ?_
  refine D_not (GC.some rfl rfl) (OpV.s rfl) ?_
  refine D_or (cy := _) GC.none (OpV.t rfl) (OpV.s rfl) (fun h hb => ⟨h, hb⟩) ?_
  refine D_move GC.none (OpV.t rfl) ?_
  refine D_fieldAddr (GC.some rfl rfl) (OpV.t rfl) fld267_4 ?_
  refine D_loadW (GC.some rfl rfl) (OpV.s rfl) (fun hg => RdC.seg (RdC.blk (by first | (with_reducible repeat (first | exact List.Mem.head _ | apply List.Mem.tail)); done | (repeat (first | exact List.Mem.head _ | apply List.Mem.tail)))) 5 8 rfl) (by exact agg129) ?_
  refine D_callX (GC.some rfl rfl) fn88 (OpVs.cons (OpV.s rfl) (OpVs.nil)) (by exact fun hg w F hF hM => s_CmdOk_walk w (a0_6, a0_7, a0_8, a0_9, a0_10, a0_11, a0_12, a0_13) (RdT.nowS (RdT.pair RdT.int (RdT.pair RdT.int (RdT.pair RdT.int (RdT.pair RdT.str (RdT.pair RdT.str (RdT.pair RdT.str (RdT.pair RdT.int (RdT.old h0.2.2.2.2.1.2.2.2.2.2.2.2)))))))) hF hM) _ (hy5 (gnot hg.2))) ?_
  refine D_not (GC.some rfl rfl) (OpV.s rfl) ?_
  refine D_or (cy := _) GC.none (OpV.t rfl) (OpV.s rfl) (fun h hb => ⟨h, hb⟩) ?_
  refine D_move GC.none (OpV.t rfl) ?_
  refine D_fieldAddr (GC.some rfl rfl) (OpV.t rfl) fld267_5 ?_
  refine D_load (GC.some rfl rfl) (OpV.s rfl) (fun hg => RdC.blk (by first | (with_reducible repeat (first | exact List.Mem.head _ | apply List.Mem.tail)); done | (repeat (first | exact List.Mem.head _ | apply List.Mem.tail)))) one3 rfl ?_
  refine D_callX (GC.some rfl rfl) fn123 (OpVs.cons (OpV.s rfl) (OpVs.cons OpV.c (OpVs.cons OpV.c (OpVs.nil)))) (by exact fun hg w F hF hM => s_l1In_walk w a0_14 0 60  _ (hy6 (gnot hg.2))) ?_
  refine D_not (GC.some rfl rfl) (OpV.s rfl) ?_
  refine D_or (cy := _) GC.none (OpV.t rfl) (OpV.s rfl) (fun h hb => ⟨h, hb⟩) ?_
  refine D_move GC.none (OpV.t rfl) ?_
  refine D_fieldAddr (GC.some rfl rfl) (OpV.t rfl) fld267_6 ?_
  refine D_load (GC.some rfl rfl) (OpV.s rfl) (fun hg => RdC.blk (by first | (with_reducible repeat (first | exact List.Mem.head _ | apply List.Mem.tail)); done | (repeat (first | exact List.Mem.head _ | apply List.Mem.tail)))) one265 rfl ?_
  refine D_callX (GC.some rfl rfl) fn269 (OpVs.cons (OpV.s rfl) (OpVs.nil)) (by exact fun hg w F hF hM => s_IdsOk_walk w a0_15 (RdT.nowS (RdT.old h0.2.2.2.2.2.2.1) hF hM) _ (hy7 (gnot hg.2))) ?_
  refine D_not (GC.some rfl rfl) (OpV.s rfl) ?_
  refine D_or (cy := _) GC.none (OpV.t rfl) (OpV.s rfl) (fun h hb => ⟨h, hb⟩) ?_
  refine D_move GC.none (OpV.t rfl) ?_
  refine D_fieldAddr (GC.some rfl rfl) (OpV.t rfl) fld267_6 ?_
  refine D_load (GC.some rfl rfl) (OpV.s rfl) (fun hg => RdC.blk (by first | (with_reducible repeat (first | exact List.Mem.head _ | apply List.Mem.tail)); done | (repeat (first | exact List.Mem.head _ | apply List.Mem.tail)))) one265 rfl ?_
  refine D_fieldAddr (GC.some rfl rfl) (OpV.t rfl) fld267_0 ?_
  refine D_loadW (GC.some rfl rfl) (OpV.s rfl) (fun hg => RdC.seg (RdC.blk (by first | (with_reducible repeat (first | exact List.Mem.head _ | apply List.Mem.tail)); done | (repeat (first | exact List.Mem.head _ | apply List.Mem.tail)))) 0 2 rfl) (by exact agg264) ?_
  refine D_callX (GC.some rfl rfl) fn270 (OpVs.cons (OpV.s rfl) (OpVs.cons (OpV.s rfl) (OpVs.nil))) (by exact fun hg w F hF hM => s_l8Has_walk w a0_15 (a0_1, a0_2) (RdT.nowS (RdT.old h0.2.2.2.2.2.2.1) hF hM) (RdT.nowS (RdT.pair RdT.int RdT.int) hF hM) _ (hy8 (gnot hg.2))) ?_
  refine D_or (cy := _) GC.none (OpV.t rfl) (OpV.s rfl) (fun h hb => ⟨h, hb⟩) ?_
  refine DV_nil ?_
  refine Give_is rfl rfl ?_
  refine Give_drop rfl ?_
  refine Give_drop rfl ?_
  refine Give_drop rfl ?_
  refine Give_drop rfl ?_
  refine Give_drop rfl ?_
  refine Give_drop rfl ?_
  refine Give_drop rfl ?_
  refine Give_drop rfl ?_
  refine Give_drop rfl ?_
  refine Give_drop rfl ?_
  refine Give_drop rfl ?_
  refine Give_drop rfl ?_
  refine Give_drop rfl ?_
  refine Give_drop rfl ?_
  refine Give_drop rfl ?_
  refine Give_drop rfl ?_
  refine Give_drop rfl ?_
  refine Give_drop rfl ?_
  refine Give_drop rfl ?_
  refine Give_drop rfl ?_
  refine Give_drop rfl ?_
  refine Give_drop rfl ?_
  refine Give_drop rfl ?_
  refine Give_drop rfl ?_
  refine Give_drop rfl ?_
  refine Give_drop rfl ?_
  refine Give_drop rfl ?_
  refine Give_drop rfl ?_
  refine Give_drop rfl ?_
  refine Give_drop rfl ?_
  refine Give_drop rfl ?_
  refine Give_drop rfl ?_
  refine Give_drop rfl ?_
  refine Give_drop rfl ?_
  refine Give_drop rfl ?_
  refine Give_drop rfl ?_
  refine Give_drop rfl ?_
  refine Give_drop rfl ?_
  refine Give_drop rfl ?_
  refine Give_drop rfl ?_
  refine Give_drop rfl ?_
  refine Give_drop rfl ?_
  refine Give_drop rfl ?_
  refine Give_drop rfl ?_
  refine Give_drop rfl ?_
  refine Give_drop rfl ?_
  refine Give_drop rfl ?_
  refine Give_drop rfl ?_
  refine Give_nil ?_
  refine W_weaken (l' := [(1, _), (51, _)]) (Sub.cons rfl (Sub.cons rfl (Sub.nil _))) (MSub.refl _) ?_
  refine W_cond rfl (fun hc9 => ?_) (fun hc9 => ?_)
  · skip
    replace hp := cond_t hc9 hp
    refine W_seq ?_
    refine W_region ?_
    refine L_assign rfl rfl ?_
    refine L_nil ?_
    obtain rfl := Option.some.inj hp
    refine W_ret ?_
    refine res1 rfl (ResOK.tmp rfl) ⟨rfl, rfl⟩ (MSub.nil _)
  · skip
    replace hp := cond_f hc9 hp
    refine W_skip ?_
    refine W_seq ?_
    refine W_D0 [2] mix (by kernel_rfl) rfl ?_
    refine D_fieldAddr GC.none (OpV.t rfl) fld267_3 ?_
    refine D_load GC.none (OpV.t rfl) (fun hg => RdC.blk (by first | (with_reducible repeat (first | exact List.Mem.head _ | apply List.Mem.tail)); done | (repeat (first | exact List.Mem.head _ | apply List.Mem.tail)))) one3 rfl ?_
    refine D_bin GC.none (OpV.t rfl) OpV.c (fun hg => bv_neq) ?_
    refine D_move GC.none (OpV.t rfl) ?_
    refine D_fieldAddr (GC.some rfl rfl) (OpV.t rfl) fld267_2 ?_
    refine D_load (GC.some rfl rfl) (OpV.s rfl) (fun hg => RdC.blk (by first | (with_reducible repeat (first | exact List.Mem.head _ | apply List.Mem.tail)); done | (repeat (first | exact List.Mem.head _ | apply List.Mem.tail)))) one3 rfl ?_
    refine D_bin (GC.some rfl rfl) (OpV.s rfl) OpV.c (fun hg => bv_eql) ?_
    refine D_move (GC.some rfl rfl) (OpV.s rfl) ?_
    refine D_fieldAddr (GC.some rfl rfl) (OpV.t rfl) fld267_4 ?_
    refine D_fieldAddr (GC.some rfl rfl) (OpV.s rfl) fld129_0 ?_
    refine D_load (fo := 5) (GC.some rfl rfl) (OpV.s rfl) (fun hg => RdC.blk (by first | (with_reducible repeat (first | exact List.Mem.head _ | apply List.Mem.tail)); done | (repeat (first | exact List.Mem.head _ | apply List.Mem.tail)))) one3 rfl ?_
    refine D_bin (GC.some rfl rfl) (OpV.s rfl) OpV.c (fun hg => bv_eql) ?_
    refine D_and (cy := _) (GC.some rfl rfl) (OpV.s rfl) (OpV.s rfl) (fun h hb => ⟨h, hb⟩) ?_
    refine D_move (GC.some rfl rfl) (OpV.s rfl) ?_
    refine D_fieldAddr (GC.some rfl rfl) (OpV.t rfl) fld267_5 ?_
    refine D_load (GC.some rfl rfl) (OpV.s rfl) (fun hg => RdC.blk (by first | (with_reducible repeat (first | exact List.Mem.head _ | apply List.Mem.tail)); done | (repeat (first | exact List.Mem.head _ | apply List.Mem.tail)))) one3 rfl ?_
    refine D_bin (GC.some rfl rfl) (OpV.s rfl) OpV.c (fun hg => bv_eql) ?_
    refine D_and (cy := _) (GC.some rfl rfl) (OpV.s rfl) (OpV.s rfl) (fun h hb => ⟨h, hb⟩) ?_
    refine D_move (GC.some rfl rfl) (OpV.s rfl) ?_
    refine D_fieldAddr (GC.some rfl rfl) (OpV.t rfl) fld267_6 ?_
    refine D_load (GC.some rfl rfl) (OpV.s rfl) (fun hg => RdC.blk (by first | (with_reducible repeat (first | exact List.Mem.head _ | apply List.Mem.tail)); done | (repeat (first | exact List.Mem.head _ | apply List.Mem.tail)))) one265 rfl ?_
    refine D_lenP (X := a0_15) (GC.some rfl rfl) (OpV.s rfl) el265 ?_
    refine D_bin (GC.some rfl rfl) (OpV.s rfl) OpV.c (fun hg => bv_eql) ?_
    refine D_and (cy := _) (GC.some rfl rfl) (OpV.s rfl) (OpV.s rfl) (fun h hb => ⟨h, hb⟩) ?_
    refine D_move (GC.some rfl rfl) (OpV.s rfl) ?_
    refine D_fieldAddr (GC.some rfl rfl) (OpV.t rfl) fld267_7 ?_
    refine D_load (GC.some rfl rfl) (OpV.s rfl) (fun hg => RdC.blk (by first | (with_reducible repeat (first | exact List.Mem.head _ | apply List.Mem.tail)); done | (repeat (first | exact List.Mem.head _ | apply List.Mem.tail)))) one4 rfl ?_
    refine D_not (GC.some rfl rfl) (OpV.s rfl) ?_
    refine D_and (cy := _) (GC.some rfl rfl) (OpV.s rfl) (OpV.s rfl) (fun h hb => ⟨h, hb⟩) ?_
    refine D_or (cy := _) GC.none (OpV.t rfl) (OpV.s rfl) (fun h hb => ⟨h, hb⟩) ?_
    refine D_assign GC.none (OpV.t rfl) ?_
    refine DV_nil ?_
    refine Give_is rfl rfl ?_
    refine Give_drop rfl ?_
    refine Give_drop rfl ?_
    refine Give_drop rfl ?_
    refine Give_drop rfl ?_
    refine Give_drop rfl ?_
    refine Give_drop rfl ?_
    refine Give_drop rfl ?_
    refine Give_drop rfl ?_
    refine Give_drop rfl ?_
    refine Give_drop rfl ?_
    refine Give_drop rfl ?_
    refine Give_drop rfl ?_
    refine Give_drop rfl ?_
    refine Give_drop rfl ?_
    refine Give_drop rfl ?_
    refine Give_drop rfl ?_
    refine Give_drop rfl ?_
    refine Give_drop rfl ?_
    refine Give_drop rfl ?_
    refine Give_drop rfl ?_
    refine Give_drop rfl ?_
    refine Give_drop rfl ?_
    refine Give_drop rfl ?_
    refine Give_drop rfl ?_
    refine Give_drop rfl ?_
    refine Give_drop rfl ?_
    refine Give_drop rfl ?_
    refine Give_drop rfl ?_
    refine Give_drop rfl ?_
    refine Give_drop rfl ?_
    refine Give_nil ?_
    obtain rfl := Option.some.inj hp
    refine W_ret ?_
    refine res1 rfl (ResOK.tmp rfl) ⟨rfl, rfl⟩ (MSub.nil _)

noncomputable def s_InstsOk (a0 : List D_Inst) : Option Bool :=
  whileP (fun s1 : Int => cond (decide (s1 < (a0.length : Int))) (Option.bind (idx a0 s1) (fun y3 => Option.bind (s_l8Inst ((y3.1.1, y3.1.2), y3.2.1, y3.2.2.1, y3.2.2.2.1, (y3.2.2.2.2.1.1, y3.2.2.2.2.1.2.1, y3.2.2.2.2.1.2.2.1, y3.2.2.2.2.1.2.2.2.1, y3.2.2.2.2.1.2.2.2.2.1, y3.2.2.2.2.1.2.2.2.2.2.1, y3.2.2.2.2.1.2.2.2.2.2.2.1, y3.2.2.2.2.1.2.2.2.2.2.2.2), y3.2.2.2.2.2.1, y3.2.2.2.2.2.2.1, y3.2.2.2.2.2.2.2)) (fun y4 => gb ((!(!y4)) && (decide (0 < s1))) (idx a0 (IntKind.wrap .i64 (s1 - 1))) (fun y5 => gb ((!(!y4)) && (decide (0 < s1))) (idx a0 s1) (fun y6 => gb ((!(!y4)) && (decide (0 < s1))) (s_l8Less (y5.1.1, y5.1.2) (y6.1.1, y6.1.2)) (fun y7 => cond ((!y4) || ((decide (0 < s1)) && (!y7))) (Option.map .inr (some false)) (some (.inl (IntKind.wrap .i64 (s1 + 1)))))))))) (Option.map .inr (some true))) 0

theorem s_InstsOk_walk (w : World) (a0 : TL T_Inst) (h0 : GT.rd w [] a0) (r : Bool) (hp : s_InstsOk (GT.dat a0) = some r) : Spec Try.prog 222 [(TL.hdr a0)].toArray w [] (IsV (.bool r)) := by
  refine Spec.intro Try.func222 rfl Try.ntmps222 rfl ?_
  unfold s_InstsOk at hp
  try dsimp only [dat_pair, dat_int, dat_bool, dat_str] at hp
  refine W_seq ?_
  refine W_region ?_
  refine L_assign rfl rfl ?_
  refine L_nil ?_
  refine W_seq ?_
  refine W_seq ?_
  refine W_region ?_
  refine L_assign rfl rfl ?_
  refine L_nil ?_
  refine W_block ?_
  refine W_while (σ := Int) GT.dat (fun (v1_0 : Int) => [(3, .int .i64 v1_0)]) (fun (v1_0 : Int) => []) [(0, _)] [] 0 hp (Sub.cons rfl (Sub.cons rfl (Sub.nil _))) (MSub.nil _) ?_
  clear hp
  rintro v1_0 x1 hp hx1
  try dsimp only [dat_pair, dat_int, dat_bool, dat_str] at hp
  refine W_weaken (l' := [(0, _), (3, _)]) (Sub.cons rfl (Sub.cons rfl (Sub.nil _))) (M' := []) (MSub.nil _) ?_
  refine W_seq ?_
  refine W_seq ?_
  refine W_region ?_
  refine L_move rfl rfl ?_
  refine L_move rfl rfl ?_
  refine L_lenP (X := a0) rfl rfl el114 ?_
  refine L_binV rfl rfl rfl bv_lss ?_
  refine L_nil ?_
  refine W_weaken (l' := [(0, _), (3, _), (7, _)]) (Sub.cons rfl (Sub.cons rfl (Sub.cons rfl (Sub.nil _)))) (MSub.refl _) ?_
  refine W_cond rfl (fun hc2 => ?_) (fun hc2 => ?_)
  · skip
    replace hp := cond_t hc2 hp
    refine W_skip ?_
    refine W_seq ?_
    refine W_block ?_
    refine W_seq ?_
    have ho := hp; clear hp; obtain ⟨u3, hy3, hp⟩ := idx_bind ho; clear ho
    obtain ⟨⟨u3_1, u3_2⟩, u3_3, u3_4, u3_5, ⟨u3_6, u3_7, u3_8, u3_9, u3_10, u3_11, u3_12, u3_13⟩, u3_14, u3_15, u3_16⟩ := u3
    have ho := hp; clear hp; obtain ⟨y4, hy4, hp⟩ := bind_any ho; clear ho
    have ho := hp; clear hp; obtain ⟨u5, hy5, hp⟩ := idx_gb ho; clear ho
    obtain ⟨⟨u5_1, u5_2⟩, u5_3, u5_4, u5_5, ⟨u5_6, u5_7, u5_8, u5_9, u5_10, u5_11, u5_12, u5_13⟩, u5_14, u5_15, u5_16⟩ := u5
    have ho := hp; clear hp; obtain ⟨u6, hy6, hp⟩ := idx_gb ho; clear ho
    obtain ⟨⟨u6_1, u6_2⟩, u6_3, u6_4, u6_5, ⟨u6_6, u6_7, u6_8, u6_9, u6_10, u6_11, u6_12, u6_13⟩, u6_14, u6_15, u6_16⟩ := u6
    have ho := hp; clear hp; obtain ⟨y7, hy7, hp⟩ := gb_any ho; clear ho
    refine W_D0 [34] mix (by kernel_rfl) rfl ?_
    refine D_move GC.none (OpV.t rfl) ?_
    refine D_move GC.none (OpV.t rfl) ?_
    refine D_idxA (X := a0) GC.none (OpV.t rfl) (OpV.t rfl) el114 (RdT.old h0) (fun _ => hy3) ?_
    refine D_loadW GC.none (OpV.t rfl) (fun hg => RdT.at (RdT.old h0) (hy3).2) (by exact agg267) ?_
    refine D_callX GC.none fn266 (OpVs.cons (OpV.t rfl) (OpVs.nil)) (by exact fun hg w F hF hM => s_l8Inst_walk w ((u3_1, u3_2), u3_3, u3_4, u3_5, (u3_6, u3_7, u3_8, u3_9, u3_10, u3_11, u3_12, u3_13), u3_14, u3_15, u3_16) (RdT.nowS (RdT.pair (RdT.pair RdT.int RdT.int) (RdT.pair RdT.int (RdT.pair RdT.int (RdT.pair RdT.int (RdT.pair (RdT.pair RdT.int (RdT.pair RdT.int (RdT.pair RdT.int (RdT.pair RdT.str (RdT.pair RdT.str (RdT.pair RdT.str (RdT.pair RdT.int (RdT.snd (RdT.snd (RdT.snd (RdT.snd (RdT.snd (RdT.snd (RdT.snd (RdT.fst (RdT.snd (RdT.snd (RdT.snd (RdT.snd (RdT.of (RdT.old h0) (hy3).2)))))))))))))))))))) (RdT.pair RdT.int (RdT.pair (RdT.fst (RdT.snd (RdT.snd (RdT.snd (RdT.snd (RdT.snd (RdT.snd (RdT.of (RdT.old h0) (hy3).2)))))))) RdT.bool))))))) hF hM) _ hy4) ?_
    refine D_not GC.none (OpV.t rfl) ?_
    refine D_move GC.none (OpV.t rfl) ?_
    refine D_move (GC.some rfl rfl) (OpV.t rfl) ?_
    refine D_bin (GC.some rfl rfl) (OpV.s rfl) OpV.c (fun hg => bv_gtr) ?_
    refine D_move (GC.some rfl rfl) (OpV.s rfl) ?_
    refine D_move (GC.some rfl rfl) (OpV.t rfl) ?_
    refine D_move (GC.some rfl rfl) (OpV.t rfl) ?_
    refine D_bin (GC.some rfl rfl) (OpV.s rfl) OpV.c (fun hg => bv_sub) ?_
    refine D_idxA (X := a0) (GC.some rfl rfl) (OpV.s rfl) (OpV.s rfl) el114 (RdT.old h0) (fun hg => hy5 (gand (gnot hg.1.2) hg.2)) ?_
    refine D_fieldAddr (GC.some rfl rfl) (OpV.s rfl) fld267_0 ?_
    refine D_loadW (GC.some rfl rfl) (OpV.s rfl) (fun hg => RdC.seg (RdT.at (RdT.old h0) (hy5 (gand (gnot hg.1.2) hg.2)).2) 0 2 rfl) (by exact agg264) ?_
    refine D_move (GC.some rfl rfl) (OpV.t rfl) ?_
    refine D_move (GC.some rfl rfl) (OpV.t rfl) ?_
    refine D_idxA (X := a0) (GC.some rfl rfl) (OpV.s rfl) (OpV.s rfl) el114 (RdT.old h0) (fun hg => hy6 (gand (gnot hg.1.2) hg.2)) ?_
    refine D_fieldAddr (GC.some rfl rfl) (OpV.s rfl) fld267_0 ?_
    refine D_loadW (GC.some rfl rfl) (OpV.s rfl) (fun hg => RdC.seg (RdT.at (RdT.old h0) (hy6 (gand (gnot hg.1.2) hg.2)).2) 0 2 rfl) (by exact agg264) ?_
    refine D_callX (GC.some rfl rfl) fn267 (OpVs.cons (OpV.s rfl) (OpVs.cons (OpV.s rfl) (OpVs.nil))) (by exact fun hg w F hF hM => s_l8Less_walk w (u5_1, u5_2) (u6_1, u6_2) (RdT.nowS (RdT.pair RdT.int RdT.int) hF hM) (RdT.nowS (RdT.pair RdT.int RdT.int) hF hM) _ (hy7 (gand (gnot hg.1.2) hg.2))) ?_
    refine D_not (GC.some rfl rfl) (OpV.s rfl) ?_
    refine D_and (cy := _) (GC.some rfl rfl) (OpV.s rfl) (OpV.s rfl) (fun h hb => ⟨h, hb⟩) ?_
    refine D_or (cy := _) GC.none (OpV.t rfl) (OpV.s rfl) (fun h hb => ⟨h, hb⟩) ?_
    refine DV_nil ?_
    refine Give_is rfl rfl ?_
    refine Give_drop rfl ?_
    refine Give_drop rfl ?_
    refine Give_drop rfl ?_
    refine Give_drop rfl ?_
    refine Give_drop rfl ?_
    refine Give_drop rfl ?_
    refine Give_drop rfl ?_
    refine Give_drop rfl ?_
    refine Give_drop rfl ?_
    refine Give_drop rfl ?_
    refine Give_drop rfl ?_
    refine Give_drop rfl ?_
    refine Give_drop rfl ?_
    refine Give_drop rfl ?_
    refine Give_drop rfl ?_
    refine Give_drop rfl ?_
    refine Give_drop rfl ?_
    refine Give_drop rfl ?_
    refine Give_drop rfl ?_
    refine Give_drop rfl ?_
    refine Give_drop rfl ?_
    refine Give_drop rfl ?_
    refine Give_drop rfl ?_
    refine Give_drop rfl ?_
    refine Give_nil ?_
    refine W_weaken (l' := [(0, _), (3, _), (34, _)]) (Sub.cons rfl (Sub.cons rfl (Sub.cons rfl (Sub.nil _)))) (MSub.refl _) ?_
    refine W_cond rfl (fun hc8 => ?_) (fun hc8 => ?_)
    · skip
      replace hp := cond_t hc8 hp
      refine W_seq ?_
      refine W_region ?_
      refine L_assign rfl rfl ?_
      refine L_nil ?_
      have ho := hp; clear hp; obtain ⟨a9, hp, hx_a9⟩ := map_any ho; clear ho
      obtain rfl := hx1 _ hx_a9
      obtain rfl := Option.some.inj hp
      refine W_ret ?_
      refine res1 rfl (ResOK.tmp rfl) ⟨rfl, rfl⟩ (MSub.nil _)
    · skip
      replace hp := cond_f hc8 hp
      refine W_skip ?_
      refine W_region ?_
      refine L_move rfl rfl ?_
      refine L_binV rfl rfl rfl bv_add ?_
      refine L_assign rfl rfl ?_
      refine L_nil ?_
      exact ⟨IntKind.wrap .i64 (v1_0 + 1), (Sub.cons rfl (Sub.cons rfl (Sub.nil _))), (Arr.sub (MSub.nil _)), some_eq hp⟩
  · skip
    replace hp := cond_f hc2 hp
    refine W_exit ?_
    have ho := hp; clear hp; obtain ⟨a10, hp, hx_a10⟩ := map_any ho; clear ho
    obtain rfl := hx1 _ hx_a10
    refine W_seq ?_
    refine W_region ?_
    refine L_assign rfl rfl ?_
    refine L_nil ?_
    obtain rfl := Option.some.inj hp
    refine W_ret ?_
    refine res1 rfl (ResOK.tmp rfl) ⟨rfl, rfl⟩ (MSub.nil _)

noncomputable def i_idOk (a0 : D_Id) : Option Bool :=
  Option.bind (i_within a0.1 0 2) (fun y1 => gb y1 (i_within a0.2 1 6) (fun y2 => some (y1 && y2)))

theorem i_idOk_walk (w : World) (a0 : T_Id) (h0 : GT.rd w [] a0) (r : Bool) (hp : i_idOk (GT.dat a0) = some r) : Spec Try.prog 277 [.agg (GT.cells a0).toArray].toArray w [] (IsV (.bool r)) := by
  obtain ⟨a0_1, a0_2⟩ := a0
  change Spec _ _ ([Value.agg #[.int .i64 a0_1, .int .i64 a0_2]] : List Value).toArray w [] _
  refine Spec.intro Try.func277 rfl Try.ntmps277 rfl ?_
  unfold i_idOk at hp
  try dsimp only [dat_pair, dat_int, dat_bool, dat_str] at hp
  refine W_seq ?_
  refine W_region ?_
  refine L_box rfl rfl (fun bk1 => ?_)
  refine L_assign rfl rfl ?_
  refine L_nil ?_
  refine W_seq ?_
  have ho := hp; clear hp; obtain ⟨y1, hy1, hp⟩ := bind_any ho; clear ho
  have ho := hp; clear hp; obtain ⟨y2, hy2, hp⟩ := gb_any ho; clear ho
  refine W_D0 [2] mix (by kernel_rfl) rfl ?_
  refine D_fieldAddr GC.none (OpV.t rfl) fld264_0 ?_
  refine D_load GC.none (OpV.t rfl) (fun hg => RdC.blk (by first | (with_reducible repeat (first | exact List.Mem.head _ | apply List.Mem.tail)); done | (repeat (first | exact List.Mem.head _ | apply List.Mem.tail)))) one3 rfl ?_
  refine D_callX GC.none fn119 (OpVs.cons (OpV.t rfl) (OpVs.cons OpV.c (OpVs.cons OpV.c (OpVs.nil)))) (by exact fun hg w F hF hM => i_within_walk w a0_1 0 2  _ hy1) ?_
  refine D_move GC.none (OpV.t rfl) ?_
  refine D_fieldAddr (GC.some rfl rfl) (OpV.t rfl) fld264_1 ?_
  refine D_load (GC.some rfl rfl) (OpV.s rfl) (fun hg => RdC.blk (by first | (with_reducible repeat (first | exact List.Mem.head _ | apply List.Mem.tail)); done | (repeat (first | exact List.Mem.head _ | apply List.Mem.tail)))) one3 rfl ?_
  refine D_callX (GC.some rfl rfl) fn119 (OpVs.cons (OpV.s rfl) (OpVs.cons OpV.c (OpVs.cons OpV.c (OpVs.nil)))) (by exact fun hg w F hF hM => i_within_walk w a0_2 1 6  _ (hy2 hg.2)) ?_
  refine D_and (cy := _) GC.none (OpV.t rfl) (OpV.s rfl) (fun h hb => ⟨h, hb⟩) ?_
  refine D_assign GC.none (OpV.t rfl) ?_
  refine DV_nil ?_
  refine Give_is rfl rfl ?_
  refine Give_drop rfl ?_
  refine Give_drop rfl ?_
  refine Give_drop rfl ?_
  refine Give_drop rfl ?_
  refine Give_drop rfl ?_
  refine Give_drop rfl ?_
  refine Give_drop rfl ?_
  refine Give_drop rfl ?_
  refine Give_nil ?_
  obtain rfl := Option.some.inj hp
  refine W_ret ?_
  refine res1 rfl (ResOK.tmp rfl) ⟨rfl, rfl⟩ (MSub.nil _)

noncomputable def i_compareIds (a0 : D_Id) (a1 : D_Id) : Option Int :=
  cond ((decide (a0.1 < a1.1)) || ((decide (a0.1 = a1.1)) && (decide (a0.2 < a1.2)))) (some (-1)) (cond (decide (a0.1 = a1.1) && (decide (a0.2 = a1.2) && true)) (some 0) (some 1))

theorem i_compareIds_walk (w : World) (a0 : T_Id) (a1 : T_Id) (h0 : GT.rd w [] a0) (h1 : GT.rd w [] a1) (r : Int) (hp : i_compareIds (GT.dat a0) (GT.dat a1) = some r) : Spec Try.prog 276 [.agg (GT.cells a0).toArray, .agg (GT.cells a1).toArray].toArray w [] (IsV (.int .i64 r)) := by
  obtain ⟨a0_1, a0_2⟩ := a0
  obtain ⟨a1_1, a1_2⟩ := a1
  change Spec _ _ ([Value.agg #[.int .i64 a0_1, .int .i64 a0_2], Value.agg #[.int .i64 a1_1, .int .i64 a1_2]] : List Value).toArray w [] _
  refine Spec.intro Try.func276 rfl Try.ntmps276 rfl ?_
  unfold i_compareIds at hp
  try dsimp only [dat_pair, dat_int, dat_bool, dat_str] at hp
  refine W_seq ?_
  refine W_region ?_
  refine L_box rfl rfl (fun bk2 => ?_)
  refine L_box rfl rfl (fun bk3 => ?_)
  refine L_assign rfl rfl ?_
  refine L_nil ?_
  refine W_seq ?_
  refine W_block ?_
  refine W_seq ?_
  refine W_D0 [5] mix (by kernel_rfl) rfl ?_
  refine D_fieldAddr GC.none (OpV.t rfl) fld264_0 ?_
  refine D_load GC.none (OpV.t rfl) (fun hg => RdC.blk (by first | (with_reducible repeat (first | exact List.Mem.head _ | apply List.Mem.tail)); done | (repeat (first | exact List.Mem.head _ | apply List.Mem.tail)))) one3 rfl ?_
  refine D_fieldAddr GC.none (OpV.t rfl) fld264_0 ?_
  refine D_load GC.none (OpV.t rfl) (fun hg => RdC.blk (by first | (with_reducible repeat (first | exact List.Mem.head _ | apply List.Mem.tail)); done | (repeat (first | exact List.Mem.head _ | apply List.Mem.tail)))) one3 rfl ?_
  refine D_bin GC.none (OpV.t rfl) (OpV.t rfl) (fun hg => bv_lss) ?_
  refine D_move GC.none (OpV.t rfl) ?_
  refine D_fieldAddr (GC.some rfl rfl) (OpV.t rfl) fld264_0 ?_
  refine D_load (GC.some rfl rfl) (OpV.s rfl) (fun hg => RdC.blk (by first | (with_reducible repeat (first | exact List.Mem.head _ | apply List.Mem.tail)); done | (repeat (first | exact List.Mem.head _ | apply List.Mem.tail)))) one3 rfl ?_
  refine D_fieldAddr (GC.some rfl rfl) (OpV.t rfl) fld264_0 ?_
  refine D_load (GC.some rfl rfl) (OpV.s rfl) (fun hg => RdC.blk (by first | (with_reducible repeat (first | exact List.Mem.head _ | apply List.Mem.tail)); done | (repeat (first | exact List.Mem.head _ | apply List.Mem.tail)))) one3 rfl ?_
  refine D_bin (GC.some rfl rfl) (OpV.s rfl) (OpV.s rfl) (fun hg => bv_eql) ?_
  refine D_move (GC.some rfl rfl) (OpV.s rfl) ?_
  refine D_fieldAddr (GC.some rfl rfl) (OpV.t rfl) fld264_1 ?_
  refine D_load (GC.some rfl rfl) (OpV.s rfl) (fun hg => RdC.blk (by first | (with_reducible repeat (first | exact List.Mem.head _ | apply List.Mem.tail)); done | (repeat (first | exact List.Mem.head _ | apply List.Mem.tail)))) one3 rfl ?_
  refine D_fieldAddr (GC.some rfl rfl) (OpV.t rfl) fld264_1 ?_
  refine D_load (GC.some rfl rfl) (OpV.s rfl) (fun hg => RdC.blk (by first | (with_reducible repeat (first | exact List.Mem.head _ | apply List.Mem.tail)); done | (repeat (first | exact List.Mem.head _ | apply List.Mem.tail)))) one3 rfl ?_
  refine D_bin (GC.some rfl rfl) (OpV.s rfl) (OpV.s rfl) (fun hg => bv_lss) ?_
  refine D_and (cy := _) (GC.some rfl rfl) (OpV.s rfl) (OpV.s rfl) (fun h hb => ⟨h, hb⟩) ?_
  refine D_or (cy := _) GC.none (OpV.t rfl) (OpV.s rfl) (fun h hb => ⟨h, hb⟩) ?_
  refine D_assign GC.none (OpV.t rfl) ?_
  refine DV_nil ?_
  refine Give_is rfl rfl ?_
  refine Give_drop rfl ?_
  refine Give_drop rfl ?_
  refine Give_drop rfl ?_
  refine Give_drop rfl ?_
  refine Give_drop rfl ?_
  refine Give_drop rfl ?_
  refine Give_drop rfl ?_
  refine Give_drop rfl ?_
  refine Give_drop rfl ?_
  refine Give_drop rfl ?_
  refine Give_drop rfl ?_
  refine Give_drop rfl ?_
  refine Give_drop rfl ?_
  refine Give_drop rfl ?_
  refine Give_drop rfl ?_
  refine Give_drop rfl ?_
  refine Give_drop rfl ?_
  refine Give_drop rfl ?_
  refine Give_drop rfl ?_
  refine Give_nil ?_
  refine W_weaken (l' := [(2, _), (3, _), (5, _)]) (Sub.cons rfl (Sub.cons rfl (Sub.cons rfl (Sub.nil _)))) (MSub.refl _) ?_
  refine W_cond rfl (fun hc1 => ?_) (fun hc1 => ?_)
  · skip
    replace hp := cond_t hc1 hp
    refine W_seq ?_
    refine W_region ?_
    refine L_assign rfl rfl ?_
    refine L_nil ?_
    obtain rfl := Option.some.inj hp
    refine W_ret ?_
    refine res1 rfl (ResOK.tmp rfl) ⟨rfl, rfl⟩ (MSub.nil _)
  · skip
    replace hp := cond_f hc1 hp
    refine W_seq ?_
    refine W_region ?_
    refine L_loadW rfl rfl (RdC.blk (by first | (with_reducible repeat (first | exact List.Mem.head _ | apply List.Mem.tail)); done | (repeat (first | exact List.Mem.head _ | apply List.Mem.tail)))) (by exact agg264) ?_
    refine L_loadW rfl rfl (RdC.blk (by first | (with_reducible repeat (first | exact List.Mem.head _ | apply List.Mem.tail)); done | (repeat (first | exact List.Mem.head _ | apply List.Mem.tail)))) (by exact agg264) ?_
    refine L_binV rfl rfl rfl (bv_aeql eqsh264 (EqS.consI one3 und3 rfl rfl (EqS.consI one3 und3 rfl rfl EqS.nil))) ?_
    refine L_assign rfl rfl ?_
    refine L_nil ?_
    refine W_weaken (l' := [(25, _)]) (Sub.cons rfl (Sub.nil _)) (MSub.refl _) ?_
    refine W_cond rfl (fun hc2 => ?_) (fun hc2 => ?_)
    · skip
      replace hp := cond_t hc2 hp
      refine W_seq ?_
      refine W_region ?_
      refine L_assign rfl rfl ?_
      refine L_nil ?_
      obtain rfl := Option.some.inj hp
      refine W_ret ?_
      refine res1 rfl (ResOK.tmp rfl) ⟨rfl, rfl⟩ (MSub.nil _)
    · skip
      replace hp := cond_f hc2 hp
      refine W_skip ?_
      refine W_seq ?_
      refine W_region ?_
      refine L_assign rfl rfl ?_
      refine L_nil ?_
      obtain rfl := Option.some.inj hp
      refine W_ret ?_
      refine res1 rfl (ResOK.tmp rfl) ⟨rfl, rfl⟩ (MSub.nil _)

noncomputable def i_IdsOk (a0 : List D_Id) : Option Bool :=
  whileP (fun s1 : Int => cond (decide (s1 < (a0.length : Int))) (Option.bind (idx a0 s1) (fun y3 => Option.bind (i_idOk (y3.1, y3.2)) (fun y4 => gb ((!(!y4)) && (decide (0 < s1))) (idx a0 (IntKind.wrap .i64 (s1 - 1))) (fun y5 => gb ((!(!y4)) && (decide (0 < s1))) (i_compareIds (y5.1, y5.2) (y3.1, y3.2)) (fun y6 => cond ((!y4) || ((decide (0 < s1)) && (decide (0 ≤ y6)))) (Option.map .inr (some false)) (some (.inl (IntKind.wrap .i64 (s1 + 1))))))))) (Option.map .inr (some true))) 0

theorem i_IdsOk_walk (w : World) (a0 : TL T_Id) (h0 : GT.rd w [] a0) (r : Bool) (hp : i_IdsOk (GT.dat a0) = some r) : Spec Try.prog 318 [(TL.hdr a0)].toArray w [] (IsV (.bool r)) := by
  refine Spec.intro Try.func318 rfl Try.ntmps318 rfl ?_
  unfold i_IdsOk at hp
  try dsimp only [dat_pair, dat_int, dat_bool, dat_str] at hp
  refine W_seq ?_
  refine W_region ?_
  refine L_assign rfl rfl ?_
  refine L_nil ?_
  refine W_seq ?_
  refine W_seq ?_
  refine W_region ?_
  refine L_move rfl rfl ?_
  refine L_lenP (X := a0) rfl rfl el265 ?_
  refine L_move rfl rfl ?_
  refine L_nil ?_
  refine W_block ?_
  refine W_while (σ := Int) GT.dat (fun (v1_0 : Int) => [(7, .int .i64 v1_0)]) (fun (v1_0 : Int) => []) [(0, _), (5, _), (6, _)] [] 0 hp (Sub.cons rfl (Sub.cons rfl (Sub.cons rfl (Sub.cons rfl (Sub.nil _))))) (MSub.nil _) ?_
  clear hp
  rintro v1_0 x1 hp hx1
  try dsimp only [dat_pair, dat_int, dat_bool, dat_str] at hp
  refine W_weaken (l' := [(0, _), (5, _), (6, _), (7, _)]) (Sub.cons rfl (Sub.cons rfl (Sub.cons rfl (Sub.cons rfl (Sub.nil _))))) (M' := []) (MSub.nil _) ?_
  refine W_seq ?_
  refine W_region ?_
  refine L_binV rfl rfl rfl bv_lss ?_
  refine L_nil ?_
  refine W_seq ?_
  refine W_weaken (l' := [(0, _), (5, _), (6, _), (7, _), (8, _)]) (Sub.cons rfl (Sub.cons rfl (Sub.cons rfl (Sub.cons rfl (Sub.cons rfl (Sub.nil _)))))) (MSub.refl _) ?_
  refine W_cond rfl (fun hc2 => ?_) (fun hc2 => ?_)
  · skip
    replace hp := cond_t hc2 hp
    refine W_skip ?_
    refine W_seq ?_
    refine W_block ?_
    refine W_seq ?_
    refine W_region ?_
    refine L_move rfl rfl ?_
    have ho := hp; clear hp; obtain ⟨u3, hy3, hp⟩ := idx_bind ho; clear ho
    obtain ⟨u3_1, u3_2⟩ := u3
    refine L_idxA (X := a0) rfl rfl rfl el265 (RdT.old h0) hy3 ?_
    refine L_loadW rfl rfl (RdT.at (RdT.old h0) (hy3).2) (by exact agg264) ?_
    refine L_alloc rfl zero264 (fun bk4 => ?_)
    refine L_assign rfl rfl ?_
    refine L_storeW rfl rfl (by first | (with_reducible repeat (first | exact Pick.here _ | apply Pick.there)); done | (repeat (first | exact Pick.here _ | apply Pick.there))) (by exact agg264) (by rfl) (by first | exact allOne rfl | exact fun v hv => GT.one _ v hv | (simp [Value.oneCell', TL.hdr, Value.cells]; done)) ?_
    refine L_nil ?_
    refine W_seq ?_
    have ho := hp; clear hp; obtain ⟨y4, hy4, hp⟩ := bind_any ho; clear ho
    have ho := hp; clear hp; obtain ⟨u5, hy5, hp⟩ := idx_gb ho; clear ho
    obtain ⟨u5_1, u5_2⟩ := u5
    have ho := hp; clear hp; obtain ⟨y6, hy6, hp⟩ := gb_any ho; clear ho
    refine W_D0 [28] mix (by kernel_rfl) rfl ?_
    refine D_loadW GC.none (OpV.t rfl) (fun hg => RdC.blk (by first | (with_reducible repeat (first | exact List.Mem.head _ | apply List.Mem.tail)); done | (repeat (first | exact List.Mem.head _ | apply List.Mem.tail)))) (by exact agg264) ?_
    refine D_callX GC.none fn277 (OpVs.cons (OpV.t rfl) (OpVs.nil)) (by exact fun hg w F hF hM => i_idOk_walk w (u3_1, u3_2) (RdT.nowS (RdT.pair RdT.int RdT.int) hF hM) _ hy4) ?_
    refine D_not GC.none (OpV.t rfl) ?_
    refine D_move GC.none (OpV.t rfl) ?_
    refine D_move (GC.some rfl rfl) (OpV.t rfl) ?_
    refine D_bin (GC.some rfl rfl) (OpV.s rfl) OpV.c (fun hg => bv_gtr) ?_
    refine D_move (GC.some rfl rfl) (OpV.s rfl) ?_
    refine D_move (GC.some rfl rfl) (OpV.t rfl) ?_
    refine D_move (GC.some rfl rfl) (OpV.t rfl) ?_
    refine D_bin (GC.some rfl rfl) (OpV.s rfl) OpV.c (fun hg => bv_sub) ?_
    refine D_idxA (X := a0) (GC.some rfl rfl) (OpV.s rfl) (OpV.s rfl) el265 (RdT.old h0) (fun hg => hy5 (gand (gnot hg.1.2) hg.2)) ?_
    refine D_loadW (GC.some rfl rfl) (OpV.s rfl) (fun hg => RdT.at (RdT.old h0) (hy5 (gand (gnot hg.1.2) hg.2)).2) (by exact agg264) ?_
    refine D_loadW (GC.some rfl rfl) (OpV.t rfl) (fun hg => RdC.blk (by first | (with_reducible repeat (first | exact List.Mem.head _ | apply List.Mem.tail)); done | (repeat (first | exact List.Mem.head _ | apply List.Mem.tail)))) (by exact agg264) ?_
    refine D_callX (GC.some rfl rfl) fn276 (OpVs.cons (OpV.s rfl) (OpVs.cons (OpV.s rfl) (OpVs.nil))) (by exact fun hg w F hF hM => i_compareIds_walk w (u5_1, u5_2) (u3_1, u3_2) (RdT.nowS (RdT.pair RdT.int RdT.int) hF hM) (RdT.nowS (RdT.pair RdT.int RdT.int) hF hM) _ (hy6 (gand (gnot hg.1.2) hg.2))) ?_
    refine D_bin (GC.some rfl rfl) (OpV.s rfl) OpV.c (fun hg => bv_geq) ?_
    refine D_and (cy := _) (GC.some rfl rfl) (OpV.s rfl) (OpV.s rfl) (fun h hb => ⟨h, hb⟩) ?_
    refine D_or (cy := _) GC.none (OpV.t rfl) (OpV.s rfl) (fun h hb => ⟨h, hb⟩) ?_
    refine DV_nil ?_
    refine Give_is rfl rfl ?_
    refine Give_drop rfl ?_
    refine Give_drop rfl ?_
    refine Give_drop rfl ?_
    refine Give_drop rfl ?_
    refine Give_drop rfl ?_
    refine Give_drop rfl ?_
    refine Give_drop rfl ?_
    refine Give_drop rfl ?_
    refine Give_drop rfl ?_
    refine Give_drop rfl ?_
    refine Give_drop rfl ?_
    refine Give_drop rfl ?_
    refine Give_drop rfl ?_
    refine Give_drop rfl ?_
    refine Give_drop rfl ?_
    refine Give_drop rfl ?_
    refine Give_nil ?_
    refine W_weaken (l' := [(0, _), (5, _), (6, _), (7, _), (28, _)]) (Sub.cons rfl (Sub.cons rfl (Sub.cons rfl (Sub.cons rfl (Sub.cons rfl (Sub.nil _)))))) (MSub.refl _) ?_
    refine W_cond rfl (fun hc7 => ?_) (fun hc7 => ?_)
    · skip
      replace hp := cond_t hc7 hp
      refine W_seq ?_
      refine W_region ?_
      refine L_assign rfl rfl ?_
      refine L_nil ?_
      have ho := hp; clear hp; obtain ⟨a8, hp, hx_a8⟩ := map_any ho; clear ho
      obtain rfl := hx1 _ hx_a8
      obtain rfl := Option.some.inj hp
      refine W_ret ?_
      refine res1 rfl (ResOK.tmp rfl) ⟨rfl, rfl⟩ (MSub.nil _)
    · skip
      replace hp := cond_f hc7 hp
      refine W_skip ?_
      refine W_region ?_
      refine L_binV rfl rfl rfl bv_add ?_
      refine L_move rfl rfl ?_
      refine L_nil ?_
      exact ⟨IntKind.wrap .i64 (v1_0 + 1), (Sub.cons rfl (Sub.cons rfl (Sub.cons rfl (Sub.cons rfl (Sub.nil _))))), (Arr.sub (MSub.nil _)), some_eq hp⟩
  · skip
    replace hp := cond_f hc2 hp
    refine W_exit ?_
    have ho := hp; clear hp; obtain ⟨a9, hp, hx_a9⟩ := map_any ho; clear ho
    obtain rfl := hx1 _ hx_a9
    refine W_seq ?_
    refine W_region ?_
    refine L_assign rfl rfl ?_
    refine L_nil ?_
    obtain rfl := Option.some.inj hp
    refine W_ret ?_
    refine res1 rfl (ResOK.tmp rfl) ⟨rfl, rfl⟩ (MSub.nil _)

noncomputable def sl_Index_implIdimplId (a0 : List D_Id) (a1 : D_Id) : Option Int :=
  whileP (fun s1 : Int => cond (decide (s1 < (a0.length : Int))) (Option.bind (idx a0 s1) (fun y3 => cond (decide (a1.1 = y3.1) && (decide (a1.2 = y3.2) && true)) (Option.map .inr (some s1)) (some (.inl (IntKind.wrap .i64 (s1 + 1)))))) (Option.map .inr (some (-1)))) 0

theorem sl_Index_implIdimplId_walk (w : World) (a0 : TL T_Id) (a1 : T_Id) (h0 : GT.rd w [] a0) (h1 : GT.rd w [] a1) (r : Int) (hp : sl_Index_implIdimplId (GT.dat a0) (GT.dat a1) = some r) : Spec Try.prog 333 [(TL.hdr a0), .agg (GT.cells a1).toArray].toArray w [] (IsV (.int .i64 r)) := by
  obtain ⟨a1_1, a1_2⟩ := a1
  change Spec _ _ ([(TL.hdr a0), Value.agg #[.int .i64 a1_1, .int .i64 a1_2]] : List Value).toArray w [] _
  refine Spec.intro Try.func333 rfl Try.ntmps333 rfl ?_
  unfold sl_Index_implIdimplId at hp
  try dsimp only [dat_pair, dat_int, dat_bool, dat_str] at hp
  refine W_seq ?_
  refine W_region ?_
  refine L_box rfl rfl (fun bk3 => ?_)
  refine L_assign rfl rfl ?_
  refine L_nil ?_
  refine W_seq ?_
  refine W_seq ?_
  refine W_region ?_
  refine L_move rfl rfl ?_
  refine L_lenP (X := a0) rfl rfl el265 ?_
  refine L_move rfl rfl ?_
  refine L_nil ?_
  refine W_block ?_
  refine W_while (σ := Int) GT.dat (fun (v1_0 : Int) => [(8, .int .i64 v1_0)]) (fun (v1_0 : Int) => []) [(0, _), (3, _), (7, _)] [blk bk3 _ _] 0 hp (Sub.cons rfl (Sub.cons rfl (Sub.cons rfl (Sub.cons rfl (Sub.nil _))))) (MSub.cons (by first | (with_reducible repeat (first | exact Pick.here _ | apply Pick.there)); done | (repeat (first | exact Pick.here _ | apply Pick.there))) (MSub.nil _)) ?_
  clear hp
  rintro v1_0 x1 hp hx1
  try dsimp only [dat_pair, dat_int, dat_bool, dat_str] at hp
  refine W_weaken (l' := [(0, _), (3, _), (7, _), (8, _)]) (Sub.cons rfl (Sub.cons rfl (Sub.cons rfl (Sub.cons rfl (Sub.nil _))))) (M' := [_]) (MSub.cons (by first | (with_reducible repeat (first | exact Pick.here _ | apply Pick.there)); done | (repeat (first | exact Pick.here _ | apply Pick.there))) (MSub.nil _)) ?_
  refine W_seq ?_
  refine W_region ?_
  refine L_binV rfl rfl rfl bv_lss ?_
  refine L_nil ?_
  refine W_seq ?_
  refine W_weaken (l' := [(0, _), (3, _), (7, _), (8, _), (9, _)]) (Sub.cons rfl (Sub.cons rfl (Sub.cons rfl (Sub.cons rfl (Sub.cons rfl (Sub.nil _)))))) (MSub.refl _) ?_
  refine W_cond rfl (fun hc2 => ?_) (fun hc2 => ?_)
  · skip
    replace hp := cond_t hc2 hp
    refine W_skip ?_
    refine W_seq ?_
    refine W_block ?_
    refine W_seq ?_
    refine W_region ?_
    refine L_move rfl rfl ?_
    refine L_assign rfl rfl ?_
    refine L_nil ?_
    refine W_seq ?_
    have ho := hp; clear hp; obtain ⟨u3, hy3, hp⟩ := idx_bind ho; clear ho
    obtain ⟨u3_1, u3_2⟩ := u3
    refine W_D0 [16] mix (by kernel_rfl) rfl ?_
    refine D_loadW GC.none (OpV.t rfl) (fun hg => RdC.blk (by first | (with_reducible repeat (first | exact List.Mem.head _ | apply List.Mem.tail)); done | (repeat (first | exact List.Mem.head _ | apply List.Mem.tail)))) (by exact agg264) ?_
    refine D_move GC.none (OpV.t rfl) ?_
    refine D_move GC.none (OpV.t rfl) ?_
    refine D_idxA (X := a0) GC.none (OpV.t rfl) (OpV.t rfl) el265 (RdT.old h0) (fun _ => hy3) ?_
    refine D_loadW GC.none (OpV.t rfl) (fun hg => RdT.at (RdT.old h0) (hy3).2) (by exact agg264) ?_
    refine D_bin GC.none (OpV.t rfl) (OpV.t rfl) (fun hg => (bv_aeql eqsh264 (EqS.consI one3 und3 rfl rfl (EqS.consI one3 und3 rfl rfl EqS.nil)))) ?_
    refine DV_nil ?_
    refine Give_is rfl rfl ?_
    refine Give_drop rfl ?_
    refine Give_drop rfl ?_
    refine Give_drop rfl ?_
    refine Give_drop rfl ?_
    refine Give_drop rfl ?_
    refine Give_nil ?_
    refine W_weaken (l' := [(0, _), (3, _), (5, _), (7, _), (8, _), (16, _)]) (Sub.cons rfl (Sub.cons rfl (Sub.cons rfl (Sub.cons rfl (Sub.cons rfl (Sub.cons rfl (Sub.nil _))))))) (MSub.refl _) ?_
    refine W_cond rfl (fun hc4 => ?_) (fun hc4 => ?_)
    · skip
      replace hp := cond_t hc4 hp
      refine W_seq ?_
      refine W_region ?_
      refine L_move rfl rfl ?_
      refine L_assign rfl rfl ?_
      refine L_nil ?_
      have ho := hp; clear hp; obtain ⟨a5, hp, hx_a5⟩ := map_any ho; clear ho
      obtain rfl := hx1 _ hx_a5
      obtain rfl := Option.some.inj hp
      refine W_ret ?_
      refine res1 rfl (ResOK.tmp rfl) ⟨rfl, rfl⟩ (MSub.nil _)
    · skip
      replace hp := cond_f hc4 hp
      refine W_skip ?_
      refine W_region ?_
      refine L_binV rfl rfl rfl bv_add ?_
      refine L_move rfl rfl ?_
      refine L_nil ?_
      exact ⟨IntKind.wrap .i64 (v1_0 + 1), (Sub.cons rfl (Sub.cons rfl (Sub.cons rfl (Sub.cons rfl (Sub.nil _))))), (Arr.sub (MSub.cons (by first | (with_reducible repeat (first | exact Pick.here _ | apply Pick.there)); done | (repeat (first | exact Pick.here _ | apply Pick.there))) (MSub.nil _))), some_eq hp⟩
  · skip
    replace hp := cond_f hc2 hp
    refine W_exit ?_
    have ho := hp; clear hp; obtain ⟨a6, hp, hx_a6⟩ := map_any ho; clear ho
    obtain rfl := hx1 _ hx_a6
    refine W_seq ?_
    refine W_region ?_
    refine L_assign rfl rfl ?_
    refine L_nil ?_
    obtain rfl := Option.some.inj hp
    refine W_ret ?_
    refine res1 rfl (ResOK.tmp rfl) ⟨rfl, rfl⟩ (MSub.nil _)

noncomputable def sl_Contains_implIdimplId (a0 : List D_Id) (a1 : D_Id) : Option Bool :=
  Option.bind (sl_Index_implIdimplId a0 (a1.1, a1.2)) (fun y1 => some (decide (0 ≤ y1)))

theorem sl_Contains_implIdimplId_walk (w : World) (a0 : TL T_Id) (a1 : T_Id) (h0 : GT.rd w [] a0) (h1 : GT.rd w [] a1) (r : Bool) (hp : sl_Contains_implIdimplId (GT.dat a0) (GT.dat a1) = some r) : Spec Try.prog 319 [(TL.hdr a0), .agg (GT.cells a1).toArray].toArray w [] (IsV (.bool r)) := by
  obtain ⟨a1_1, a1_2⟩ := a1
  change Spec _ _ ([(TL.hdr a0), Value.agg #[.int .i64 a1_1, .int .i64 a1_2]] : List Value).toArray w [] _
  refine Spec.intro Try.func319 rfl Try.ntmps319 rfl ?_
  unfold sl_Contains_implIdimplId at hp
  try dsimp only [dat_pair, dat_int, dat_bool, dat_str] at hp
  refine W_seq ?_
  refine W_region ?_
  refine L_box rfl rfl (fun bk3 => ?_)
  refine L_assign rfl rfl ?_
  refine L_nil ?_
  refine W_seq ?_
  refine W_region ?_
  refine L_move rfl rfl ?_
  refine L_loadW rfl rfl (RdC.blk (by first | (with_reducible repeat (first | exact List.Mem.head _ | apply List.Mem.tail)); done | (repeat (first | exact List.Mem.head _ | apply List.Mem.tail)))) (by exact agg264) ?_
  have ho := hp; clear hp; obtain ⟨y1, hy1, hp⟩ := bind_any ho; clear ho
  refine L_callX rfl fn333 rfl (by exact fun w hw => sl_Index_implIdimplId_walk w a0 (a1_1, a1_2) (RdT.now (RdT.old h0) hw) (RdT.now (RdT.pair RdT.int RdT.int) hw) _ hy1) ?_
  refine L_binV rfl rfl rfl bv_geq ?_
  refine L_assign rfl rfl ?_
  refine L_nil ?_
  obtain rfl := Option.some.inj hp
  refine W_ret ?_
  refine res1 rfl (ResOK.tmp rfl) ⟨rfl, rfl⟩ (MSub.nil _)

noncomputable def i_instOk (a0 : D_Inst) : Option Bool :=
  Option.bind (i_idOk (a0.1.1, a0.1.2)) (fun y1 => gb (!(!y1)) (i_within a0.2.1 (-1) 600) (fun y2 => gb (!((!y1) || (!y2))) (i_within a0.2.2.1 (-1) a0.2.1) (fun y3 => gb (!(((!y1) || (!y2)) || (!y3))) (i_within a0.2.2.2.1 0 3) (fun y4 => gb (!((((!y1) || (!y2)) || (!y3)) || (!y4))) (i_CmdOk (a0.2.2.2.2.1.1, a0.2.2.2.2.1.2.1, a0.2.2.2.2.1.2.2.1, a0.2.2.2.2.1.2.2.2.1, a0.2.2.2.2.1.2.2.2.2.1, a0.2.2.2.2.1.2.2.2.2.2.1, a0.2.2.2.2.1.2.2.2.2.2.2.1, a0.2.2.2.2.1.2.2.2.2.2.2.2)) (fun y5 => gb (!(((((!y1) || (!y2)) || (!y3)) || (!y4)) || (!y5))) (i_within a0.2.2.2.2.2.1 0 60) (fun y6 => gb (!((((((!y1) || (!y2)) || (!y3)) || (!y4)) || (!y5)) || (!y6))) (i_IdsOk a0.2.2.2.2.2.2.1) (fun y7 => gb (!(((((((!y1) || (!y2)) || (!y3)) || (!y4)) || (!y5)) || (!y6)) || (!y7))) (sl_Contains_implIdimplId a0.2.2.2.2.2.2.1 (a0.1.1, a0.1.2)) (fun y8 => cond ((((((((!y1) || (!y2)) || (!y3)) || (!y4)) || (!y5)) || (!y6)) || (!y7)) || y8) (some false) (some ((!decide (a0.2.2.2.1 = 0)) || (((((decide (a0.2.2.1 = (-1))) && (decide (a0.2.2.2.2.1.1 = 0))) && (decide (a0.2.2.2.2.2.1 = 0))) && (decide ((a0.2.2.2.2.2.2.1.length : Int) = 0))) && (!a0.2.2.2.2.2.2.2))))))))))))

theorem i_instOk_walk (w : World) (a0 : T_Inst) (h0 : GT.rd w [] a0) (r : Bool) (hp : i_instOk (GT.dat a0) = some r) : Spec Try.prog 275 [.agg (GT.cells a0).toArray].toArray w [] (IsV (.bool r)) := by
  obtain ⟨⟨a0_1, a0_2⟩, a0_3, a0_4, a0_5, ⟨a0_6, a0_7, a0_8, a0_9, a0_10, a0_11, a0_12, a0_13⟩, a0_14, a0_15, a0_16⟩ := a0
  change Spec _ _ ([Value.agg #[.int .i64 a0_1, .int .i64 a0_2, .int .i64 a0_3, .int .i64 a0_4, .int .i64 a0_5, .int .i64 a0_6, .int .i64 a0_7, .int .i64 a0_8, .string a0_9, .string a0_10, .string a0_11, .int .i64 a0_12, (TL.hdr a0_13), .int .i64 a0_14, (TL.hdr a0_15), .bool a0_16]] : List Value).toArray w [] _
  refine Spec.intro Try.func275 rfl Try.ntmps275 rfl ?_
  unfold i_instOk at hp
  try dsimp only [dat_pair, dat_int, dat_bool, dat_str] at hp
  refine W_seq ?_
  refine W_region ?_
  refine L_box rfl rfl (fun bk1 => ?_)
  refine L_assign rfl rfl ?_
  refine L_nil ?_
  refine W_seq ?_
  refine W_seq ?_
  have ho := hp; clear hp; obtain ⟨y1, hy1, hp⟩ := bind_any ho; clear ho
  have ho := hp; clear hp; obtain ⟨y2, hy2, hp⟩ := gb_any ho; clear ho
  have ho := hp; clear hp; obtain ⟨y3, hy3, hp⟩ := gb_any ho; clear ho
  have ho := hp; clear hp; obtain ⟨y4, hy4, hp⟩ := gb_any ho; clear ho
  have ho := hp; clear hp; obtain ⟨y5, hy5, hp⟩ := gb_any ho; clear ho
  have ho := hp; clear hp; obtain ⟨y6, hy6, hp⟩ := gb_any ho; clear ho
  have ho := hp; clear hp; obtain ⟨y7, hy7, hp⟩ := gb_any ho; clear ho
  have ho := hp; clear hp; obtain ⟨y8, hy8, hp⟩ := gb_any ho; clear ho
  refine W_D0 [51] mix (by kernel_rfl) rfl ?_
  refine D_fieldAddr GC.none (OpV.t rfl) fld267_0 ?_
  refine D_loadW GC.none (OpV.t rfl) (fun hg => RdC.seg (RdC.blk (by first | (with_reducible repeat (first | exact List.Mem.head _ | apply List.Mem.tail)); done | (repeat (first | exact List.Mem.head _ | apply List.Mem.tail)))) 0 2 rfl) (by exact agg264) ?_
  refine D_callX GC.none fn277 (OpVs.cons (OpV.t rfl) (OpVs.nil)) (by exact fun hg w F hF hM => i_idOk_walk w (a0_1, a0_2) (RdT.nowS (RdT.pair RdT.int RdT.int) hF hM) _ hy1) ?_
  refine D_not GC.none (OpV.t rfl) ?_
  refine D_move GC.none (OpV.t rfl) ?_
  refine D_fieldAddr (GC.some rfl rfl) (OpV.t rfl) fld267_1 ?_
  refine D_load (GC.some rfl rfl) (OpV.s rfl) (fun hg => RdC.blk (by first | (with_reducible repeat (first | exact List.Mem.head _ | apply List.Mem.tail)); done | (repeat (first | exact List.Mem.head _ | apply List.Mem.tail)))) one3 rfl ?_
  refine D_callX (GC.some rfl rfl) fn119 (OpVs.cons (OpV.s rfl) (OpVs.cons OpV.c (OpVs.cons OpV.c (OpVs.nil)))) (by exact fun hg w F hF hM => i_within_walk w a0_3 (-1) 600  _ (hy2 (gnot hg.2))) ?_
  refine D_not (GC.some rfl rfl) (OpV.s rfl) ?_
  refine D_or (cy := _) GC.none (OpV.t rfl) (OpV.s rfl) (fun h hb => ⟨h, hb⟩) ?_
  refine D_move GC.none (OpV.t rfl) ?_
  refine D_fieldAddr (GC.some rfl rfl) (OpV.t rfl) fld267_2 ?_
  refine D_load (GC.some rfl rfl) (OpV.s rfl) (fun hg => RdC.blk (by first | (with_reducible repeat (first | exact List.Mem.head _ | apply List.Mem.tail)); done | (repeat (first | exact List.Mem.head _ | apply List.Mem.tail)))) one3 rfl ?_
  refine D_fieldAddr (GC.some rfl rfl) (OpV.t rfl) fld267_1 ?_
  refine D_load (GC.some rfl rfl) (OpV.s rfl) (fun hg => RdC.blk (by first | (with_reducible repeat (first | exact List.Mem.head _ | apply List.Mem.tail)); done | (repeat (first | exact List.Mem.head _ | apply List.Mem.tail)))) one3 rfl ?_
  refine D_callX (GC.some rfl rfl) fn119 (OpVs.cons (OpV.s rfl) (OpVs.cons OpV.c (OpVs.cons (OpV.s rfl) (OpVs.nil)))) (by exact fun hg w F hF hM => i_within_walk w a0_4 (-1) a0_3  _ (hy3 (gnot hg.2))) ?_
  refine D_not (GC.some rfl rfl) (OpV.s rfl) ?_
  refine D_or (cy := _) GC.none (OpV.t rfl) (OpV.s rfl) (fun h hb => ⟨h, hb⟩) ?_
  refine D_move GC.none (OpV.t rfl) ?_
  refine D_fieldAddr (GC.some rfl rfl) (OpV.t rfl) fld267_3 ?_
  refine D_load (GC.some rfl rfl) (OpV.s rfl) (fun hg => RdC.blk (by first | (with_reducible repeat (first | exact List.Mem.head _ | apply List.Mem.tail)); done | (repeat (first | exact List.Mem.head _ | apply List.Mem.tail)))) one3 rfl ?_
  refine D_callX (GC.some rfl rfl) fn119 (OpVs.cons (OpV.s rfl) (OpVs.cons OpV.c (OpVs.cons OpV.c (OpVs.nil)))) (by exact fun hg w F hF hM => i_within_walk w a0_5 0 3  _ (hy4 (gnot hg.2))) ?_
  refine D_not (GC.some rfl rfl) (OpV.s rfl) ?_
  refine D_or (cy := _) GC.none (OpV.t rfl) (OpV.s rfl) (fun h hb => ⟨h, hb⟩) ?_
  refine D_move GC.none (OpV.t rfl) ?_
  refine D_fieldAddr (GC.some rfl rfl) (OpV.t rfl) fld267_4 ?_
  refine D_loadW (GC.some rfl rfl) (OpV.s rfl) (fun hg => RdC.seg (RdC.blk (by first | (with_reducible repeat (first | exact List.Mem.head _ | apply List.Mem.tail)); done | (repeat (first | exact List.Mem.head _ | apply List.Mem.tail)))) 5 8 rfl) (by exact agg129) ?_
  refine D_callX (GC.some rfl rfl) fn180 (OpVs.cons (OpV.s rfl) (OpVs.nil)) (by exact fun hg w F hF hM => i_CmdOk_walk w (a0_6, a0_7, a0_8, a0_9, a0_10, a0_11, a0_12, a0_13) (RdT.nowS (RdT.pair RdT.int (RdT.pair RdT.int (RdT.pair RdT.int (RdT.pair RdT.str (RdT.pair RdT.str (RdT.pair RdT.str (RdT.pair RdT.int (RdT.old h0.2.2.2.2.1.2.2.2.2.2.2.2)))))))) hF hM) _ (hy5 (gnot hg.2))) ?_
  refine D_not (GC.some rfl rfl) (OpV.s rfl) ?_
  refine D_or (cy := _) GC.none (OpV.t rfl) (OpV.s rfl) (fun h hb => ⟨h, hb⟩) ?_
  refine D_move GC.none (OpV.t rfl) ?_
  refine D_fieldAddr (GC.some rfl rfl) (OpV.t rfl) fld267_5 ?_
  refine D_load (GC.some rfl rfl) (OpV.s rfl) (fun hg => RdC.blk (by first | (with_reducible repeat (first | exact List.Mem.head _ | apply List.Mem.tail)); done | (repeat (first | exact List.Mem.head _ | apply List.Mem.tail)))) one3 rfl ?_
  refine D_callX (GC.some rfl rfl) fn119 (OpVs.cons (OpV.s rfl) (OpVs.cons OpV.c (OpVs.cons OpV.c (OpVs.nil)))) (by exact fun hg w F hF hM => i_within_walk w a0_14 0 60  _ (hy6 (gnot hg.2))) ?_
  refine D_not (GC.some rfl rfl) (OpV.s rfl) ?_
  refine D_or (cy := _) GC.none (OpV.t rfl) (OpV.s rfl) (fun h hb => ⟨h, hb⟩) ?_
  refine D_move GC.none (OpV.t rfl) ?_
  refine D_fieldAddr (GC.some rfl rfl) (OpV.t rfl) fld267_6 ?_
  refine D_load (GC.some rfl rfl) (OpV.s rfl) (fun hg => RdC.blk (by first | (with_reducible repeat (first | exact List.Mem.head _ | apply List.Mem.tail)); done | (repeat (first | exact List.Mem.head _ | apply List.Mem.tail)))) one265 rfl ?_
  refine D_callX (GC.some rfl rfl) fn318 (OpVs.cons (OpV.s rfl) (OpVs.nil)) (by exact fun hg w F hF hM => i_IdsOk_walk w a0_15 (RdT.nowS (RdT.old h0.2.2.2.2.2.2.1) hF hM) _ (hy7 (gnot hg.2))) ?_
  refine D_not (GC.some rfl rfl) (OpV.s rfl) ?_
  refine D_or (cy := _) GC.none (OpV.t rfl) (OpV.s rfl) (fun h hb => ⟨h, hb⟩) ?_
  refine D_move GC.none (OpV.t rfl) ?_
  refine D_fieldAddr (GC.some rfl rfl) (OpV.t rfl) fld267_6 ?_
  refine D_load (GC.some rfl rfl) (OpV.s rfl) (fun hg => RdC.blk (by first | (with_reducible repeat (first | exact List.Mem.head _ | apply List.Mem.tail)); done | (repeat (first | exact List.Mem.head _ | apply List.Mem.tail)))) one265 rfl ?_
  refine D_fieldAddr (GC.some rfl rfl) (OpV.t rfl) fld267_0 ?_
  refine D_loadW (GC.some rfl rfl) (OpV.s rfl) (fun hg => RdC.seg (RdC.blk (by first | (with_reducible repeat (first | exact List.Mem.head _ | apply List.Mem.tail)); done | (repeat (first | exact List.Mem.head _ | apply List.Mem.tail)))) 0 2 rfl) (by exact agg264) ?_
  refine D_callX (GC.some rfl rfl) fn319 (OpVs.cons (OpV.s rfl) (OpVs.cons (OpV.s rfl) (OpVs.nil))) (by exact fun hg w F hF hM => sl_Contains_implIdimplId_walk w a0_15 (a0_1, a0_2) (RdT.nowS (RdT.old h0.2.2.2.2.2.2.1) hF hM) (RdT.nowS (RdT.pair RdT.int RdT.int) hF hM) _ (hy8 (gnot hg.2))) ?_
  refine D_or (cy := _) GC.none (OpV.t rfl) (OpV.s rfl) (fun h hb => ⟨h, hb⟩) ?_
  refine DV_nil ?_
  refine Give_is rfl rfl ?_
  refine Give_drop rfl ?_
  refine Give_drop rfl ?_
  refine Give_drop rfl ?_
  refine Give_drop rfl ?_
  refine Give_drop rfl ?_
  refine Give_drop rfl ?_
  refine Give_drop rfl ?_
  refine Give_drop rfl ?_
  refine Give_drop rfl ?_
  refine Give_drop rfl ?_
  refine Give_drop rfl ?_
  refine Give_drop rfl ?_
  refine Give_drop rfl ?_
  refine Give_drop rfl ?_
  refine Give_drop rfl ?_
  refine Give_drop rfl ?_
  refine Give_drop rfl ?_
  refine Give_drop rfl ?_
  refine Give_drop rfl ?_
  refine Give_drop rfl ?_
  refine Give_drop rfl ?_
  refine Give_drop rfl ?_
  refine Give_drop rfl ?_
  refine Give_drop rfl ?_
  refine Give_drop rfl ?_
  refine Give_drop rfl ?_
  refine Give_drop rfl ?_
  refine Give_drop rfl ?_
  refine Give_drop rfl ?_
  refine Give_drop rfl ?_
  refine Give_drop rfl ?_
  refine Give_drop rfl ?_
  refine Give_drop rfl ?_
  refine Give_drop rfl ?_
  refine Give_drop rfl ?_
  refine Give_drop rfl ?_
  refine Give_drop rfl ?_
  refine Give_drop rfl ?_
  refine Give_drop rfl ?_
  refine Give_drop rfl ?_
  refine Give_drop rfl ?_
  refine Give_drop rfl ?_
  refine Give_drop rfl ?_
  refine Give_drop rfl ?_
  refine Give_drop rfl ?_
  refine Give_drop rfl ?_
  refine Give_drop rfl ?_
  refine Give_drop rfl ?_
  refine Give_nil ?_
  refine W_weaken (l' := [(1, _), (51, _)]) (Sub.cons rfl (Sub.cons rfl (Sub.nil _))) (MSub.refl _) ?_
  refine W_cond rfl (fun hc9 => ?_) (fun hc9 => ?_)
  · skip
    replace hp := cond_t hc9 hp
    refine W_seq ?_
    refine W_region ?_
    refine L_assign rfl rfl ?_
    refine L_nil ?_
    obtain rfl := Option.some.inj hp
    refine W_ret ?_
    refine res1 rfl (ResOK.tmp rfl) ⟨rfl, rfl⟩ (MSub.nil _)
  · skip
    replace hp := cond_f hc9 hp
    refine W_skip ?_
    refine W_seq ?_
    refine W_D0 [2] mix (by kernel_rfl) rfl ?_
    refine D_fieldAddr GC.none (OpV.t rfl) fld267_3 ?_
    refine D_load GC.none (OpV.t rfl) (fun hg => RdC.blk (by first | (with_reducible repeat (first | exact List.Mem.head _ | apply List.Mem.tail)); done | (repeat (first | exact List.Mem.head _ | apply List.Mem.tail)))) one3 rfl ?_
    refine D_bin GC.none (OpV.t rfl) OpV.c (fun hg => bv_neq) ?_
    refine D_move GC.none (OpV.t rfl) ?_
    refine D_fieldAddr (GC.some rfl rfl) (OpV.t rfl) fld267_2 ?_
    refine D_load (GC.some rfl rfl) (OpV.s rfl) (fun hg => RdC.blk (by first | (with_reducible repeat (first | exact List.Mem.head _ | apply List.Mem.tail)); done | (repeat (first | exact List.Mem.head _ | apply List.Mem.tail)))) one3 rfl ?_
    refine D_bin (GC.some rfl rfl) (OpV.s rfl) OpV.c (fun hg => bv_eql) ?_
    refine D_move (GC.some rfl rfl) (OpV.s rfl) ?_
    refine D_fieldAddr (GC.some rfl rfl) (OpV.t rfl) fld267_4 ?_
    refine D_fieldAddr (GC.some rfl rfl) (OpV.s rfl) fld129_0 ?_
    refine D_load (fo := 5) (GC.some rfl rfl) (OpV.s rfl) (fun hg => RdC.blk (by first | (with_reducible repeat (first | exact List.Mem.head _ | apply List.Mem.tail)); done | (repeat (first | exact List.Mem.head _ | apply List.Mem.tail)))) one3 rfl ?_
    refine D_bin (GC.some rfl rfl) (OpV.s rfl) OpV.c (fun hg => bv_eql) ?_
    refine D_and (cy := _) (GC.some rfl rfl) (OpV.s rfl) (OpV.s rfl) (fun h hb => ⟨h, hb⟩) ?_
    refine D_move (GC.some rfl rfl) (OpV.s rfl) ?_
    refine D_fieldAddr (GC.some rfl rfl) (OpV.t rfl) fld267_5 ?_
    refine D_load (GC.some rfl rfl) (OpV.s rfl) (fun hg => RdC.blk (by first | (with_reducible repeat (first | exact List.Mem.head _ | apply List.Mem.tail)); done | (repeat (first | exact List.Mem.head _ | apply List.Mem.tail)))) one3 rfl ?_
    refine D_bin (GC.some rfl rfl) (OpV.s rfl) OpV.c (fun hg => bv_eql) ?_
    refine D_and (cy := _) (GC.some rfl rfl) (OpV.s rfl) (OpV.s rfl) (fun h hb => ⟨h, hb⟩) ?_
    refine D_move (GC.some rfl rfl) (OpV.s rfl) ?_
    refine D_fieldAddr (GC.some rfl rfl) (OpV.t rfl) fld267_6 ?_
    refine D_load (GC.some rfl rfl) (OpV.s rfl) (fun hg => RdC.blk (by first | (with_reducible repeat (first | exact List.Mem.head _ | apply List.Mem.tail)); done | (repeat (first | exact List.Mem.head _ | apply List.Mem.tail)))) one265 rfl ?_
    refine D_lenP (X := a0_15) (GC.some rfl rfl) (OpV.s rfl) el265 ?_
    refine D_bin (GC.some rfl rfl) (OpV.s rfl) OpV.c (fun hg => bv_eql) ?_
    refine D_and (cy := _) (GC.some rfl rfl) (OpV.s rfl) (OpV.s rfl) (fun h hb => ⟨h, hb⟩) ?_
    refine D_move (GC.some rfl rfl) (OpV.s rfl) ?_
    refine D_fieldAddr (GC.some rfl rfl) (OpV.t rfl) fld267_7 ?_
    refine D_load (GC.some rfl rfl) (OpV.s rfl) (fun hg => RdC.blk (by first | (with_reducible repeat (first | exact List.Mem.head _ | apply List.Mem.tail)); done | (repeat (first | exact List.Mem.head _ | apply List.Mem.tail)))) one4 rfl ?_
    refine D_not (GC.some rfl rfl) (OpV.s rfl) ?_
    refine D_and (cy := _) (GC.some rfl rfl) (OpV.s rfl) (OpV.s rfl) (fun h hb => ⟨h, hb⟩) ?_
    refine D_or (cy := _) GC.none (OpV.t rfl) (OpV.s rfl) (fun h hb => ⟨h, hb⟩) ?_
    refine D_assign GC.none (OpV.t rfl) ?_
    refine DV_nil ?_
    refine Give_is rfl rfl ?_
    refine Give_drop rfl ?_
    refine Give_drop rfl ?_
    refine Give_drop rfl ?_
    refine Give_drop rfl ?_
    refine Give_drop rfl ?_
    refine Give_drop rfl ?_
    refine Give_drop rfl ?_
    refine Give_drop rfl ?_
    refine Give_drop rfl ?_
    refine Give_drop rfl ?_
    refine Give_drop rfl ?_
    refine Give_drop rfl ?_
    refine Give_drop rfl ?_
    refine Give_drop rfl ?_
    refine Give_drop rfl ?_
    refine Give_drop rfl ?_
    refine Give_drop rfl ?_
    refine Give_drop rfl ?_
    refine Give_drop rfl ?_
    refine Give_drop rfl ?_
    refine Give_drop rfl ?_
    refine Give_drop rfl ?_
    refine Give_drop rfl ?_
    refine Give_drop rfl ?_
    refine Give_drop rfl ?_
    refine Give_drop rfl ?_
    refine Give_drop rfl ?_
    refine Give_drop rfl ?_
    refine Give_drop rfl ?_
    refine Give_drop rfl ?_
    refine Give_nil ?_
    obtain rfl := Option.some.inj hp
    refine W_ret ?_
    refine res1 rfl (ResOK.tmp rfl) ⟨rfl, rfl⟩ (MSub.nil _)

noncomputable def i_InstsOk (a0 : List D_Inst) : Option Bool :=
  whileP (fun s1 : Int => cond (decide (s1 < (a0.length : Int))) (Option.bind (idx a0 s1) (fun y3 => Option.bind (i_instOk ((y3.1.1, y3.1.2), y3.2.1, y3.2.2.1, y3.2.2.2.1, (y3.2.2.2.2.1.1, y3.2.2.2.2.1.2.1, y3.2.2.2.2.1.2.2.1, y3.2.2.2.2.1.2.2.2.1, y3.2.2.2.2.1.2.2.2.2.1, y3.2.2.2.2.1.2.2.2.2.2.1, y3.2.2.2.2.1.2.2.2.2.2.2.1, y3.2.2.2.2.1.2.2.2.2.2.2.2), y3.2.2.2.2.2.1, y3.2.2.2.2.2.2.1, y3.2.2.2.2.2.2.2)) (fun y4 => gb ((!(!y4)) && (decide (0 < s1))) (idx a0 (IntKind.wrap .i64 (s1 - 1))) (fun y5 => gb ((!(!y4)) && (decide (0 < s1))) (i_compareIds (y5.1.1, y5.1.2) (y3.1.1, y3.1.2)) (fun y6 => cond ((!y4) || ((decide (0 < s1)) && (decide (0 ≤ y6)))) (Option.map .inr (some false)) (some (.inl (IntKind.wrap .i64 (s1 + 1))))))))) (Option.map .inr (some true))) 0

theorem i_InstsOk_walk (w : World) (a0 : TL T_Inst) (h0 : GT.rd w [] a0) (r : Bool) (hp : i_InstsOk (GT.dat a0) = some r) : Spec Try.prog 228 [(TL.hdr a0)].toArray w [] (IsV (.bool r)) := by
  refine Spec.intro Try.func228 rfl Try.ntmps228 rfl ?_
  unfold i_InstsOk at hp
  try dsimp only [dat_pair, dat_int, dat_bool, dat_str] at hp
  refine W_seq ?_
  refine W_region ?_
  refine L_assign rfl rfl ?_
  refine L_nil ?_
  refine W_seq ?_
  refine W_seq ?_
  refine W_region ?_
  refine L_move rfl rfl ?_
  refine L_lenP (X := a0) rfl rfl el114 ?_
  refine L_move rfl rfl ?_
  refine L_nil ?_
  refine W_block ?_
  refine W_while (σ := Int) GT.dat (fun (v1_0 : Int) => [(7, .int .i64 v1_0)]) (fun (v1_0 : Int) => []) [(0, _), (5, _), (6, _)] [] 0 hp (Sub.cons rfl (Sub.cons rfl (Sub.cons rfl (Sub.cons rfl (Sub.nil _))))) (MSub.nil _) ?_
  clear hp
  rintro v1_0 x1 hp hx1
  try dsimp only [dat_pair, dat_int, dat_bool, dat_str] at hp
  refine W_weaken (l' := [(0, _), (5, _), (6, _), (7, _)]) (Sub.cons rfl (Sub.cons rfl (Sub.cons rfl (Sub.cons rfl (Sub.nil _))))) (M' := []) (MSub.nil _) ?_
  refine W_seq ?_
  refine W_region ?_
  refine L_binV rfl rfl rfl bv_lss ?_
  refine L_nil ?_
  refine W_seq ?_
  refine W_weaken (l' := [(0, _), (5, _), (6, _), (7, _), (8, _)]) (Sub.cons rfl (Sub.cons rfl (Sub.cons rfl (Sub.cons rfl (Sub.cons rfl (Sub.nil _)))))) (MSub.refl _) ?_
  refine W_cond rfl (fun hc2 => ?_) (fun hc2 => ?_)
  · skip
    replace hp := cond_t hc2 hp
    refine W_skip ?_
    refine W_seq ?_
    refine W_block ?_
    refine W_seq ?_
    refine W_region ?_
    refine L_move rfl rfl ?_
    have ho := hp; clear hp; obtain ⟨u3, hy3, hp⟩ := idx_bind ho; clear ho
    obtain ⟨⟨u3_1, u3_2⟩, u3_3, u3_4, u3_5, ⟨u3_6, u3_7, u3_8, u3_9, u3_10, u3_11, u3_12, u3_13⟩, u3_14, u3_15, u3_16⟩ := u3
    refine L_idxA (X := a0) rfl rfl rfl el114 (RdT.old h0) hy3 ?_
    refine L_loadW rfl rfl (RdT.at (RdT.old h0) (hy3).2) (by exact agg267) ?_
    refine L_alloc rfl zero267 (fun bk4 => ?_)
    refine L_assign rfl rfl ?_
    refine L_storeW rfl rfl (by first | (with_reducible repeat (first | exact Pick.here _ | apply Pick.there)); done | (repeat (first | exact Pick.here _ | apply Pick.there))) (by exact agg267) (by rfl) (by first | exact allOne rfl | exact fun v hv => GT.one _ v hv | (simp [Value.oneCell', TL.hdr, Value.cells]; done)) ?_
    refine L_nil ?_
    refine W_seq ?_
    have ho := hp; clear hp; obtain ⟨y4, hy4, hp⟩ := bind_any ho; clear ho
    have ho := hp; clear hp; obtain ⟨u5, hy5, hp⟩ := idx_gb ho; clear ho
    obtain ⟨⟨u5_1, u5_2⟩, u5_3, u5_4, u5_5, ⟨u5_6, u5_7, u5_8, u5_9, u5_10, u5_11, u5_12, u5_13⟩, u5_14, u5_15, u5_16⟩ := u5
    have ho := hp; clear hp; obtain ⟨y6, hy6, hp⟩ := gb_any ho; clear ho
    refine W_D0 [30] mix (by kernel_rfl) rfl ?_
    refine D_loadW GC.none (OpV.t rfl) (fun hg => RdC.blk (by first | (with_reducible repeat (first | exact List.Mem.head _ | apply List.Mem.tail)); done | (repeat (first | exact List.Mem.head _ | apply List.Mem.tail)))) (by exact agg267) ?_
    refine D_callX GC.none fn275 (OpVs.cons (OpV.t rfl) (OpVs.nil)) (by exact fun hg w F hF hM => i_instOk_walk w ((u3_1, u3_2), u3_3, u3_4, u3_5, (u3_6, u3_7, u3_8, u3_9, u3_10, u3_11, u3_12, u3_13), u3_14, u3_15, u3_16) (RdT.nowS (RdT.pair (RdT.pair RdT.int RdT.int) (RdT.pair RdT.int (RdT.pair RdT.int (RdT.pair RdT.int (RdT.pair (RdT.pair RdT.int (RdT.pair RdT.int (RdT.pair RdT.int (RdT.pair RdT.str (RdT.pair RdT.str (RdT.pair RdT.str (RdT.pair RdT.int (RdT.snd (RdT.snd (RdT.snd (RdT.snd (RdT.snd (RdT.snd (RdT.snd (RdT.fst (RdT.snd (RdT.snd (RdT.snd (RdT.snd (RdT.of (RdT.old h0) (hy3).2)))))))))))))))))))) (RdT.pair RdT.int (RdT.pair (RdT.fst (RdT.snd (RdT.snd (RdT.snd (RdT.snd (RdT.snd (RdT.snd (RdT.of (RdT.old h0) (hy3).2)))))))) RdT.bool))))))) hF hM) _ hy4) ?_
    refine D_not GC.none (OpV.t rfl) ?_
    refine D_move GC.none (OpV.t rfl) ?_
    refine D_move (GC.some rfl rfl) (OpV.t rfl) ?_
    refine D_bin (GC.some rfl rfl) (OpV.s rfl) OpV.c (fun hg => bv_gtr) ?_
    refine D_move (GC.some rfl rfl) (OpV.s rfl) ?_
    refine D_move (GC.some rfl rfl) (OpV.t rfl) ?_
    refine D_move (GC.some rfl rfl) (OpV.t rfl) ?_
    refine D_bin (GC.some rfl rfl) (OpV.s rfl) OpV.c (fun hg => bv_sub) ?_
    refine D_idxA (X := a0) (GC.some rfl rfl) (OpV.s rfl) (OpV.s rfl) el114 (RdT.old h0) (fun hg => hy5 (gand (gnot hg.1.2) hg.2)) ?_
    refine D_fieldAddr (GC.some rfl rfl) (OpV.s rfl) fld267_0 ?_
    refine D_loadW (GC.some rfl rfl) (OpV.s rfl) (fun hg => RdC.seg (RdT.at (RdT.old h0) (hy5 (gand (gnot hg.1.2) hg.2)).2) 0 2 rfl) (by exact agg264) ?_
    refine D_fieldAddr (GC.some rfl rfl) (OpV.t rfl) fld267_0 ?_
    refine D_loadW (GC.some rfl rfl) (OpV.s rfl) (fun hg => RdC.seg (RdC.blk (by first | (with_reducible repeat (first | exact List.Mem.head _ | apply List.Mem.tail)); done | (repeat (first | exact List.Mem.head _ | apply List.Mem.tail)))) 0 2 rfl) (by exact agg264) ?_
    refine D_callX (GC.some rfl rfl) fn276 (OpVs.cons (OpV.s rfl) (OpVs.cons (OpV.s rfl) (OpVs.nil))) (by exact fun hg w F hF hM => i_compareIds_walk w (u5_1, u5_2) (u3_1, u3_2) (RdT.nowS (RdT.pair RdT.int RdT.int) hF hM) (RdT.nowS (RdT.pair RdT.int RdT.int) hF hM) _ (hy6 (gand (gnot hg.1.2) hg.2))) ?_
    refine D_bin (GC.some rfl rfl) (OpV.s rfl) OpV.c (fun hg => bv_geq) ?_
    refine D_and (cy := _) (GC.some rfl rfl) (OpV.s rfl) (OpV.s rfl) (fun h hb => ⟨h, hb⟩) ?_
    refine D_or (cy := _) GC.none (OpV.t rfl) (OpV.s rfl) (fun h hb => ⟨h, hb⟩) ?_
    refine DV_nil ?_
    refine Give_is rfl rfl ?_
    refine Give_drop rfl ?_
    refine Give_drop rfl ?_
    refine Give_drop rfl ?_
    refine Give_drop rfl ?_
    refine Give_drop rfl ?_
    refine Give_drop rfl ?_
    refine Give_drop rfl ?_
    refine Give_drop rfl ?_
    refine Give_drop rfl ?_
    refine Give_drop rfl ?_
    refine Give_drop rfl ?_
    refine Give_drop rfl ?_
    refine Give_drop rfl ?_
    refine Give_drop rfl ?_
    refine Give_drop rfl ?_
    refine Give_drop rfl ?_
    refine Give_drop rfl ?_
    refine Give_drop rfl ?_
    refine Give_nil ?_
    refine W_weaken (l' := [(0, _), (5, _), (6, _), (7, _), (30, _)]) (Sub.cons rfl (Sub.cons rfl (Sub.cons rfl (Sub.cons rfl (Sub.cons rfl (Sub.nil _)))))) (MSub.refl _) ?_
    refine W_cond rfl (fun hc7 => ?_) (fun hc7 => ?_)
    · skip
      replace hp := cond_t hc7 hp
      refine W_seq ?_
      refine W_region ?_
      refine L_assign rfl rfl ?_
      refine L_nil ?_
      have ho := hp; clear hp; obtain ⟨a8, hp, hx_a8⟩ := map_any ho; clear ho
      obtain rfl := hx1 _ hx_a8
      obtain rfl := Option.some.inj hp
      refine W_ret ?_
      refine res1 rfl (ResOK.tmp rfl) ⟨rfl, rfl⟩ (MSub.nil _)
    · skip
      replace hp := cond_f hc7 hp
      refine W_skip ?_
      refine W_region ?_
      refine L_binV rfl rfl rfl bv_add ?_
      refine L_move rfl rfl ?_
      refine L_nil ?_
      exact ⟨IntKind.wrap .i64 (v1_0 + 1), (Sub.cons rfl (Sub.cons rfl (Sub.cons rfl (Sub.cons rfl (Sub.nil _))))), (Arr.sub (MSub.nil _)), some_eq hp⟩
  · skip
    replace hp := cond_f hc2 hp
    refine W_exit ?_
    have ho := hp; clear hp; obtain ⟨a9, hp, hx_a9⟩ := map_any ho; clear ho
    obtain rfl := hx1 _ hx_a9
    refine W_seq ?_
    refine W_region ?_
    refine L_assign rfl rfl ?_
    refine L_nil ?_
    obtain rfl := Option.some.inj hp
    refine W_ret ?_
    refine res1 rfl (ResOK.tmp rfl) ⟨rfl, rfl⟩ (MSub.nil _)

end Go.Proofs.SL
