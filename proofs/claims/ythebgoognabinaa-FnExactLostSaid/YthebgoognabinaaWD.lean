/- Walks of functions, each with the function on data that it follows. -/
import Derived.Test.YthebgoognabinaaWC
import Derived.Test.YthebgoognabinaaWB
namespace Go.Proofs.SL
open Go
theorem fn152 : IsFn Try.prog 152 := ⟨_, Try.func152, by kernel_rfl, rfl⟩
theorem fn86 : IsFn Try.prog 86 := ⟨_, Try.func86, by kernel_rfl, rfl⟩
theorem fn154 : IsFn Try.prog 154 := ⟨_, Try.func154, by kernel_rfl, rfl⟩
theorem fn84 : IsFn Try.prog 84 := ⟨_, Try.func84, by kernel_rfl, rfl⟩
theorem el101 : elOf Try.prog 101 = some (4, 1, 1, [.bool false]) := by kernel_rfl
theorem one4 : oneOf Try.prog 4 = true := by kernel_rfl
theorem fn157 : IsFn Try.prog 157 := ⟨_, Try.func157, by kernel_rfl, rfl⟩
theorem fn158 : IsFn Try.prog 158 := ⟨_, Try.func158, by kernel_rfl, rfl⟩
noncomputable def s_Safe (a0 : D_Catalog) (a1 : D_Ups) : Option Bool :=
  Option.bind (s_CatOk a0) (fun y1 => gb (!(!y1)) (s_UpsOk (a1.1, a1.2)) (fun y2 => cond ((!y1) || (!y2)) (some false) (Option.bind (s_AllChunks a0) (fun y4 => whileP (fun s5 : Int => cond (decide (s5 < (y4.length : Int))) (Option.bind (idx y4 s5) (fun y7 => Option.bind (s_UpHas (a1.1, a1.2) y7) (fun y8 => cond (decide (y8 < 2)) (Option.map .inr (some false)) (some (.inl (IntKind.wrap .i64 (s5 + 1))))))) (Option.map .inr (some true))) 0))))

theorem s_Safe_walk (w : World) (a0 : T_Catalog) (a1 : T_Ups) (h0 : GT.rd w [] a0) (h1 : GT.rd w [] a1) (r : Bool) (hp : s_Safe (GT.dat a0) (GT.dat a1) = some r) : Spec Try.prog 62 [.agg (GT.cells a0).toArray, .agg (GT.cells a1).toArray].toArray w [] (IsV (.bool r)) := by
  obtain ⟨a1_1, a1_2⟩ := a1
  change Spec _ _ ([Value.agg #[(TL.hdr a0)], Value.agg #[.int .i64 a1_1, (TL.hdr a1_2)]] : List Value).toArray w [] _
  refine Spec.intro Try.func62 rfl Try.ntmps62 rfl ?_
  unfold s_Safe at hp
  try dsimp only [dat_pair, dat_int, dat_bool, dat_str] at hp
  refine W_seq ?_
  refine W_region ?_
  refine L_box rfl rfl (fun bk2 => ?_)
  refine L_box rfl rfl (fun bk3 => ?_)
  refine L_assign rfl rfl ?_
  refine L_nil ?_
  refine W_seq ?_
  refine W_seq ?_
  have ho := hp; clear hp; obtain ⟨y1, hy1, hp⟩ := bind_any ho; clear ho
  have ho := hp; clear hp; obtain ⟨y2, hy2, hp⟩ := gb_any ho; clear ho
  refine W_D0 [14] mix (by kernel_rfl) rfl ?_
  refine D_loadW GC.none (OpV.t rfl) (fun hg => RdC.blk (by first | (with_reducible repeat (first | exact List.Mem.head _ | apply List.Mem.tail)); done | (repeat (first | exact List.Mem.head _ | apply List.Mem.tail)))) (by exact agg97) ?_
  refine D_callX GC.none fn151 (OpVs.cons (OpV.t rfl) (OpVs.nil)) (by exact fun hg w F hF hM => s_CatOk_walk w a0 (RdT.nowS (RdT.old h0) hF hM) _ hy1) ?_
  refine D_not GC.none (OpV.t rfl) ?_
  refine D_move GC.none (OpV.t rfl) ?_
  refine D_loadW (GC.some rfl rfl) (OpV.t rfl) (fun hg => RdC.blk (by first | (with_reducible repeat (first | exact List.Mem.head _ | apply List.Mem.tail)); done | (repeat (first | exact List.Mem.head _ | apply List.Mem.tail)))) (by exact agg28) ?_
  refine D_callX (GC.some rfl rfl) fn85 (OpVs.cons (OpV.s rfl) (OpVs.nil)) (by exact fun hg w F hF hM => s_UpsOk_walk w (a1_1, a1_2) (RdT.nowS (RdT.pair RdT.int (RdT.old h1.2)) hF hM) _ (hy2 (gnot hg.2))) ?_
  refine D_not (GC.some rfl rfl) (OpV.s rfl) ?_
  refine D_or (cy := _) GC.none (OpV.t rfl) (OpV.s rfl) (fun h hb => ⟨h, hb⟩) ?_
  refine DV_nil ?_
  refine Give_is rfl rfl ?_
  refine Give_drop rfl ?_
  refine Give_drop rfl ?_
  refine Give_drop rfl ?_
  refine Give_drop rfl ?_
  refine Give_drop rfl ?_
  refine Give_drop rfl ?_
  refine Give_drop rfl ?_
  refine Give_nil ?_
  refine W_weaken (l' := [(2, _), (3, _), (14, _)]) (Sub.cons rfl (Sub.cons rfl (Sub.cons rfl (Sub.nil _)))) (MSub.refl _) ?_
  refine W_cond rfl (fun hc3 => ?_) (fun hc3 => ?_)
  · skip
    replace hp := cond_t hc3 hp
    refine W_seq ?_
    refine W_region ?_
    refine L_assign rfl rfl ?_
    refine L_nil ?_
    obtain rfl := Option.some.inj hp
    refine W_ret ?_
    refine res1 rfl (ResOK.tmp rfl) ⟨rfl, rfl⟩ (MSub.nil _)
  · skip
    replace hp := cond_f hc3 hp
    refine W_skip ?_
    refine W_seq ?_
    refine W_region ?_
    refine L_loadW rfl rfl (RdC.blk (by first | (with_reducible repeat (first | exact List.Mem.head _ | apply List.Mem.tail)); done | (repeat (first | exact List.Mem.head _ | apply List.Mem.tail)))) (by exact agg97) ?_
    have ho := hp; clear hp; obtain ⟨y4, hy4, hp⟩ := bind_any ho; clear ho
    refine L_callR rfl fn152 rfl (by exact fun w hw => s_AllChunks_walk w a0 (RdT.now (RdT.old h0) hw) _ hy4) ?_
    rintro vy4 My4 ⟨y4x0, hvy4, hdy4, rfl⟩
    subst hvy4
    subst hdy4
    simp only [cells_pair, cells_int, cells_bool, cells_str, cells_TL, List.cons_append, List.nil_append]
    try dsimp only [dat_pair, dat_int, dat_bool, dat_str] at hp
    refine L_assign rfl rfl ?_
    refine L_nil ?_
    refine W_seq ?_
    refine W_seq ?_
    refine W_region ?_
    refine L_assign rfl rfl ?_
    refine L_nil ?_
    refine W_block ?_
    refine W_while (σ := Int) GT.dat (fun (v5_0 : Int) => [(6, .int .i64 v5_0)]) (fun (v5_0 : Int) => []) [(3, _), (5, _)] [blk bk3 _ _, treeH y4x0] 0 hp (Sub.cons rfl (Sub.cons rfl (Sub.cons rfl (Sub.nil _)))) (MSub.cons (by first | (with_reducible repeat (first | exact Pick.here _ | apply Pick.there)); done | (repeat (first | exact Pick.here _ | apply Pick.there))) (MSub.cons (by first | (with_reducible repeat (first | exact Pick.here _ | apply Pick.there)); done | (repeat (first | exact Pick.here _ | apply Pick.there))) (MSub.nil _))) ?_
    clear hp
    rintro v5_0 x5 hp hx5
    try dsimp only [dat_pair, dat_int, dat_bool, dat_str] at hp
    refine W_weaken (l' := [(3, _), (5, _), (6, _)]) (Sub.cons rfl (Sub.cons rfl (Sub.cons rfl (Sub.nil _)))) (M' := [_, _]) (MSub.cons (by first | (with_reducible repeat (first | exact Pick.here _ | apply Pick.there)); done | (repeat (first | exact Pick.here _ | apply Pick.there))) (MSub.cons (by first | (with_reducible repeat (first | exact Pick.here _ | apply Pick.there)); done | (repeat (first | exact Pick.here _ | apply Pick.there))) (MSub.nil _))) ?_
    refine W_seq ?_
    refine W_seq ?_
    refine W_region ?_
    refine L_move rfl rfl ?_
    refine L_move rfl rfl ?_
    refine L_lenP (X := y4x0) rfl rfl el48 ?_
    refine L_binV rfl rfl rfl bv_lss ?_
    refine L_nil ?_
    refine W_weaken (l' := [(3, _), (5, _), (6, _), (20, _)]) (Sub.cons rfl (Sub.cons rfl (Sub.cons rfl (Sub.cons rfl (Sub.nil _))))) (MSub.refl _) ?_
    refine W_cond rfl (fun hc6 => ?_) (fun hc6 => ?_)
    · skip
      replace hp := cond_t hc6 hp
      refine W_skip ?_
      refine W_seq ?_
      refine W_block ?_
      refine W_seq ?_
      have ho := hp; clear hp; obtain ⟨u7, hy7, hp⟩ := idx_bind ho; clear ho
      have ho := hp; clear hp; obtain ⟨y8, hy8, hp⟩ := bind_any ho; clear ho
      refine W_D0 [29] mix (by kernel_rfl) rfl ?_
      refine D_loadW GC.none (OpV.t rfl) (fun hg => RdC.blk (by first | (with_reducible repeat (first | exact List.Mem.head _ | apply List.Mem.tail)); done | (repeat (first | exact List.Mem.head _ | apply List.Mem.tail)))) (by exact agg28) ?_
      refine D_move GC.none (OpV.t rfl) ?_
      refine D_move GC.none (OpV.t rfl) ?_
      refine D_idxA (X := y4x0) GC.none (OpV.t rfl) (OpV.t rfl) el48 (RdT.tree (by first | (with_reducible repeat (first | exact List.Mem.head _ | apply List.Mem.tail)); done | (repeat (first | exact List.Mem.head _ | apply List.Mem.tail)))) (fun _ => hy7) ?_
      refine D_load0 GC.none (OpV.t rfl) (fun hg => RdT.at (RdT.tree (by first | (with_reducible repeat (first | exact List.Mem.head _ | apply List.Mem.tail)); done | (repeat (first | exact List.Mem.head _ | apply List.Mem.tail)))) (hy7).2) one9 rfl ?_
      refine D_callX GC.none fn86 (OpVs.cons (OpV.t rfl) (OpVs.cons (OpV.t rfl) (OpVs.nil))) (by exact fun hg w F hF hM => s_UpHas_walk w (a1_1, a1_2) u7 (RdT.nowS (RdT.pair RdT.int (RdT.old h1.2)) hF hM) _ hy8) ?_
      refine D_bin GC.none (OpV.t rfl) OpV.c (fun hg => bv_lss) ?_
      refine DV_nil ?_
      refine Give_is rfl rfl ?_
      refine Give_drop rfl ?_
      refine Give_drop rfl ?_
      refine Give_drop rfl ?_
      refine Give_drop rfl ?_
      refine Give_drop rfl ?_
      refine Give_drop rfl ?_
      refine Give_nil ?_
      refine W_weaken (l' := [(3, _), (5, _), (6, _), (29, _)]) (Sub.cons rfl (Sub.cons rfl (Sub.cons rfl (Sub.cons rfl (Sub.nil _))))) (MSub.refl _) ?_
      refine W_cond rfl (fun hc9 => ?_) (fun hc9 => ?_)
      · skip
        replace hp := cond_t hc9 hp
        refine W_seq ?_
        refine W_region ?_
        refine L_assign rfl rfl ?_
        refine L_nil ?_
        have ho := hp; clear hp; obtain ⟨a10, hp, hx_a10⟩ := map_any ho; clear ho
        obtain rfl := hx5 _ hx_a10
        obtain rfl := Option.some.inj hp
        refine W_ret ?_
        refine res1 rfl (ResOK.tmp rfl) ⟨rfl, rfl⟩ (MSub.nil _)
      · skip
        replace hp := cond_f hc9 hp
        refine W_skip ?_
        refine W_region ?_
        refine L_move rfl rfl ?_
        refine L_binV rfl rfl rfl bv_add ?_
        refine L_assign rfl rfl ?_
        refine L_nil ?_
        exact ⟨IntKind.wrap .i64 (v5_0 + 1), (Sub.cons rfl (Sub.cons rfl (Sub.cons rfl (Sub.nil _)))), (Arr.sub (MSub.cons (by first | (with_reducible repeat (first | exact Pick.here _ | apply Pick.there)); done | (repeat (first | exact Pick.here _ | apply Pick.there))) (MSub.cons (by first | (with_reducible repeat (first | exact Pick.here _ | apply Pick.there)); done | (repeat (first | exact Pick.here _ | apply Pick.there))) (MSub.nil _)))), some_eq hp⟩
    · skip
      replace hp := cond_f hc6 hp
      refine W_exit ?_
      have ho := hp; clear hp; obtain ⟨a11, hp, hx_a11⟩ := map_any ho; clear ho
      obtain rfl := hx5 _ hx_a11
      refine W_seq ?_
      refine W_region ?_
      refine L_assign rfl rfl ?_
      refine L_nil ?_
      obtain rfl := Option.some.inj hp
      refine W_ret ?_
      refine res1 rfl (ResOK.tmp rfl) ⟨rfl, rfl⟩ (MSub.nil _)

noncomputable def i_Safe (a0 : D_Catalog) (a1 : D_Ups) : Option Bool :=
  Option.bind (i_AllChunks a0) (fun y1 => whileP (fun s2 : Int => cond (decide (s2 < (y1.length : Int))) (Option.bind (idx y1 s2) (fun y4 => Option.bind (i_UpHas (a1.1, a1.2) y4) (fun y5 => cond (decide (y5 < 2)) (Option.map .inr (some false)) (some (.inl (IntKind.wrap .i64 (s2 + 1))))))) (Option.map .inr (Option.bind (i_CatOk a0) (fun y9 => gb y9 (i_UpsOk (a1.1, a1.2)) (fun y10 => some (y9 && y10)))))) 0)

theorem i_Safe_walk (w : World) (a0 : T_Catalog) (a1 : T_Ups) (h0 : GT.rd w [] a0) (h1 : GT.rd w [] a1) (r : Bool) (hp : i_Safe (GT.dat a0) (GT.dat a1) = some r) : Spec Try.prog 64 [.agg (GT.cells a0).toArray, .agg (GT.cells a1).toArray].toArray w [] (IsV (.bool r)) := by
  obtain ⟨a1_1, a1_2⟩ := a1
  change Spec _ _ ([Value.agg #[(TL.hdr a0)], Value.agg #[.int .i64 a1_1, (TL.hdr a1_2)]] : List Value).toArray w [] _
  refine Spec.intro Try.func64 rfl Try.ntmps64 rfl ?_
  unfold i_Safe at hp
  try dsimp only [dat_pair, dat_int, dat_bool, dat_str] at hp
  refine W_seq ?_
  refine W_region ?_
  refine L_box rfl rfl (fun bk2 => ?_)
  refine L_box rfl rfl (fun bk3 => ?_)
  refine L_assign rfl rfl ?_
  refine L_nil ?_
  refine W_seq ?_
  refine W_seq ?_
  refine W_region ?_
  refine L_loadW rfl rfl (RdC.blk (by first | (with_reducible repeat (first | exact List.Mem.head _ | apply List.Mem.tail)); done | (repeat (first | exact List.Mem.head _ | apply List.Mem.tail)))) (by exact agg97) ?_
  have ho := hp; clear hp; obtain ⟨y1, hy1, hp⟩ := bind_any ho; clear ho
  refine L_callR rfl fn154 rfl (by exact fun w hw => i_AllChunks_walk w a0 (RdT.now (RdT.old h0) hw) _ hy1) ?_
  rintro vy1 My1 ⟨y1x0, hvy1, hdy1, rfl⟩
  subst hvy1
  subst hdy1
  simp only [cells_pair, cells_int, cells_bool, cells_str, cells_TL, List.cons_append, List.nil_append]
  try dsimp only [dat_pair, dat_int, dat_bool, dat_str] at hp
  refine L_lenP (X := y1x0) rfl rfl el48 ?_
  refine L_move rfl rfl ?_
  refine L_nil ?_
  refine W_block ?_
  refine W_while (σ := Int) GT.dat (fun (v2_0 : Int) => [(10, .int .i64 v2_0)]) (fun (v2_0 : Int) => []) [(2, _), (3, _), (8, _), (9, _)] [blk bk2 _ _, blk bk3 _ _, treeH y1x0] 0 hp (Sub.cons rfl (Sub.cons rfl (Sub.cons rfl (Sub.cons rfl (Sub.cons rfl (Sub.nil _)))))) (MSub.cons (by first | (with_reducible repeat (first | exact Pick.here _ | apply Pick.there)); done | (repeat (first | exact Pick.here _ | apply Pick.there))) (MSub.cons (by first | (with_reducible repeat (first | exact Pick.here _ | apply Pick.there)); done | (repeat (first | exact Pick.here _ | apply Pick.there))) (MSub.cons (by first | (with_reducible repeat (first | exact Pick.here _ | apply Pick.there)); done | (repeat (first | exact Pick.here _ | apply Pick.there))) (MSub.nil _)))) ?_
  clear hp
  rintro v2_0 x2 hp hx2
  try dsimp only [dat_pair, dat_int, dat_bool, dat_str] at hp
  refine W_weaken (l' := [(2, _), (3, _), (8, _), (9, _), (10, _)]) (Sub.cons rfl (Sub.cons rfl (Sub.cons rfl (Sub.cons rfl (Sub.cons rfl (Sub.nil _)))))) (M' := [_, _, _]) (MSub.cons (by first | (with_reducible repeat (first | exact Pick.here _ | apply Pick.there)); done | (repeat (first | exact Pick.here _ | apply Pick.there))) (MSub.cons (by first | (with_reducible repeat (first | exact Pick.here _ | apply Pick.there)); done | (repeat (first | exact Pick.here _ | apply Pick.there))) (MSub.cons (by first | (with_reducible repeat (first | exact Pick.here _ | apply Pick.there)); done | (repeat (first | exact Pick.here _ | apply Pick.there))) (MSub.nil _)))) ?_
  refine W_seq ?_
  refine W_region ?_
  refine L_binV rfl rfl rfl bv_lss ?_
  refine L_nil ?_
  refine W_seq ?_
  refine W_weaken (l' := [(2, _), (3, _), (8, _), (9, _), (10, _), (11, _)]) (Sub.cons rfl (Sub.cons rfl (Sub.cons rfl (Sub.cons rfl (Sub.cons rfl (Sub.cons rfl (Sub.nil _))))))) (MSub.refl _) ?_
  refine W_cond rfl (fun hc3 => ?_) (fun hc3 => ?_)
  · skip
    replace hp := cond_t hc3 hp
    refine W_skip ?_
    refine W_seq ?_
    refine W_block ?_
    refine W_seq ?_
    refine W_region ?_
    have ho := hp; clear hp; obtain ⟨u4, hy4, hp⟩ := idx_bind ho; clear ho
    refine L_idxA (X := y1x0) rfl rfl rfl el48 (RdT.tree (by first | (with_reducible repeat (first | exact List.Mem.head _ | apply List.Mem.tail)); done | (repeat (first | exact List.Mem.head _ | apply List.Mem.tail)))) hy4 ?_
    refine L_load0 rfl rfl (RdT.at (RdT.tree (by first | (with_reducible repeat (first | exact List.Mem.head _ | apply List.Mem.tail)); done | (repeat (first | exact List.Mem.head _ | apply List.Mem.tail)))) (hy4).2) one9 rfl ?_
    refine L_assign rfl rfl ?_
    refine L_nil ?_
    refine W_seq ?_
    refine W_region ?_
    refine L_loadW rfl rfl (RdC.blk (by first | (with_reducible repeat (first | exact List.Mem.head _ | apply List.Mem.tail)); done | (repeat (first | exact List.Mem.head _ | apply List.Mem.tail)))) (by exact agg28) ?_
    refine L_move rfl rfl ?_
    have ho := hp; clear hp; obtain ⟨y5, hy5, hp⟩ := bind_any ho; clear ho
    refine L_callX rfl fn84 rfl (by exact fun w hw => i_UpHas_walk w (a1_1, a1_2) u4 (RdT.now (RdT.pair RdT.int (RdT.old h1.2)) hw) _ hy5) ?_
    refine L_binV rfl rfl rfl bv_lss ?_
    refine L_nil ?_
    refine W_weaken (l' := [(2, _), (3, _), (8, _), (9, _), (10, _), (17, _)]) (Sub.cons rfl (Sub.cons rfl (Sub.cons rfl (Sub.cons rfl (Sub.cons rfl (Sub.cons rfl (Sub.nil _))))))) (MSub.refl _) ?_
    refine W_cond rfl (fun hc6 => ?_) (fun hc6 => ?_)
    · skip
      replace hp := cond_t hc6 hp
      refine W_seq ?_
      refine W_region ?_
      refine L_assign rfl rfl ?_
      refine L_nil ?_
      have ho := hp; clear hp; obtain ⟨a7, hp, hx_a7⟩ := map_any ho; clear ho
      obtain rfl := hx2 _ hx_a7
      obtain rfl := Option.some.inj hp
      refine W_ret ?_
      refine res1 rfl (ResOK.tmp rfl) ⟨rfl, rfl⟩ (MSub.nil _)
    · skip
      replace hp := cond_f hc6 hp
      refine W_skip ?_
      refine W_region ?_
      refine L_binV rfl rfl rfl bv_add ?_
      refine L_move rfl rfl ?_
      refine L_nil ?_
      exact ⟨IntKind.wrap .i64 (v2_0 + 1), (Sub.cons rfl (Sub.cons rfl (Sub.cons rfl (Sub.cons rfl (Sub.cons rfl (Sub.nil _)))))), (Arr.sub (MSub.cons (by first | (with_reducible repeat (first | exact Pick.here _ | apply Pick.there)); done | (repeat (first | exact Pick.here _ | apply Pick.there))) (MSub.cons (by first | (with_reducible repeat (first | exact Pick.here _ | apply Pick.there)); done | (repeat (first | exact Pick.here _ | apply Pick.there))) (MSub.cons (by first | (with_reducible repeat (first | exact Pick.here _ | apply Pick.there)); done | (repeat (first | exact Pick.here _ | apply Pick.there))) (MSub.nil _))))), some_eq hp⟩
  · skip
    replace hp := cond_f hc3 hp
    refine W_exit ?_
    have ho := hp; clear hp; obtain ⟨a8, hp, hx_a8⟩ := map_any ho; clear ho
    obtain rfl := hx2 _ hx_a8
    refine W_seq ?_
    have ho := hp; clear hp; obtain ⟨y9, hy9, hp⟩ := bind_any ho; clear ho
    have ho := hp; clear hp; obtain ⟨y10, hy10, hp⟩ := gb_any ho; clear ho
    refine W_D0 [4] mix (by kernel_rfl) rfl ?_
    refine D_loadW GC.none (OpV.t rfl) (fun hg => RdC.blk (by first | (with_reducible repeat (first | exact List.Mem.head _ | apply List.Mem.tail)); done | (repeat (first | exact List.Mem.head _ | apply List.Mem.tail)))) (by exact agg97) ?_
    refine D_callX GC.none fn155 (OpVs.cons (OpV.t rfl) (OpVs.nil)) (by exact fun hg w F hF hM => i_CatOk_walk w a0 (RdT.nowS (RdT.old h0) hF hM) _ hy9) ?_
    refine D_move GC.none (OpV.t rfl) ?_
    refine D_loadW (GC.some rfl rfl) (OpV.t rfl) (fun hg => RdC.blk (by first | (with_reducible repeat (first | exact List.Mem.head _ | apply List.Mem.tail)); done | (repeat (first | exact List.Mem.head _ | apply List.Mem.tail)))) (by exact agg28) ?_
    refine D_callX (GC.some rfl rfl) fn97 (OpVs.cons (OpV.s rfl) (OpVs.nil)) (by exact fun hg w F hF hM => i_UpsOk_walk w (a1_1, a1_2) (RdT.nowS (RdT.pair RdT.int (RdT.old h1.2)) hF hM) _ (hy10 hg.2)) ?_
    refine D_and (cy := _) GC.none (OpV.t rfl) (OpV.s rfl) (fun h hb => ⟨h, hb⟩) ?_
    refine D_assign GC.none (OpV.t rfl) ?_
    refine DV_nil ?_
    refine Give_is rfl rfl ?_
    refine Give_drop rfl ?_
    refine Give_drop rfl ?_
    refine Give_drop rfl ?_
    refine Give_drop rfl ?_
    refine Give_drop rfl ?_
    refine Give_drop rfl ?_
    refine Give_nil ?_
    obtain rfl := Option.some.inj hp
    refine W_ret ?_
    refine res1 rfl (ResOK.tmp rfl) ⟨rfl, rfl⟩ (MSub.nil _)

noncomputable def s_l20Have (a0 : D_Ups) (a1 : ByteArray) (a2 : List Bool) : Option (List Int) :=
  Option.bind (some ([] : List Int)) (fun y2 => Option.bind (s_l18At (a0.1, a0.2) a1) (fun y3 => whileP (fun s4 : (List Int) × Int => cond ((decide (s4.2 < 3)) && (decide (0 ≤ y3))) (Option.bind (idx a2 s4.2) (fun y6 => gb y6 (idx a0.2 y3) (fun y7 => gb y6 (s_l18Has y7.2.1 s4.2) (fun y8 => cond (y6 && y8) (Option.bind (appP s4.1 [s4.2]) (fun y11 => some (.inl ((y11, IntKind.wrap .i64 (s4.2 + 1)))))) (some (.inl ((s4.1, IntKind.wrap .i64 (s4.2 + 1))))))))) (Option.map .inr (some s4.1))) (y2, 0)))

theorem s_l20Have_walk (w : World) (a0 : T_Ups) (a1 : ByteArray) (a2 : TL Bool) (h0 : GT.rd w [] a0) (h2 : GT.rd w [] a2) (r : (List Int)) (hp : s_l20Have (GT.dat a0) a1 (GT.dat a2) = some r) : Spec Try.prog 157 [.agg (GT.cells a0).toArray, .string a1, (TL.hdr a2)].toArray w [] (fun v M => ∃ (x0 : TL Int), v = (TL.hdr x0) ∧ GT.dat x0 = r ∧ M = [treeH x0]) := by
  obtain ⟨a0_1, a0_2⟩ := a0
  change Spec _ _ ([Value.agg #[.int .i64 a0_1, (TL.hdr a0_2)], .string a1, (TL.hdr a2)] : List Value).toArray w [] _
  refine Spec.intro Try.func157 rfl Try.ntmps157 rfl ?_
  unfold s_l20Have at hp
  try dsimp only [dat_pair, dat_int, dat_bool, dat_str] at hp
  refine W_seq ?_
  refine W_region ?_
  refine L_box rfl rfl (fun bk3 => ?_)
  refine L_assign (v := (TL.hdr (TL.nil Int 0))) rfl rfl ?_
  refine L_nil ?_
  refine W_seq ?_
  refine W_region ?_
  have ho := hp; clear hp; obtain ⟨y2, hy2, hp⟩ := bind_any ho; clear ho
  refine L_mk0 Int rfl el49 (fun X1 hdX1 => ?_)
  obtain rfl : GT.dat X1 = y2 := hdX1.trans (Option.some.inj hy2)
  clear hy2 hdX1
  refine L_assign rfl rfl ?_
  refine L_nil ?_
  refine W_seq ?_
  refine W_region ?_
  refine L_loadW rfl rfl (RdC.blk (by first | (with_reducible repeat (first | exact List.Mem.head _ | apply List.Mem.tail)); done | (repeat (first | exact List.Mem.head _ | apply List.Mem.tail)))) (by exact agg28) ?_
  refine L_move rfl rfl ?_
  have ho := hp; clear hp; obtain ⟨y3, hy3, hp⟩ := bind_any ho; clear ho
  refine L_callX rfl fn91 rfl (by exact fun w hw => s_l18At_walk w (a0_1, a0_2) a1 (RdT.now (RdT.pair RdT.int (RdT.old h0.2)) hw) _ hy3) ?_
  refine L_assign rfl rfl ?_
  refine L_nil ?_
  refine W_seq ?_
  refine W_seq ?_
  refine W_region ?_
  refine L_assign rfl rfl ?_
  refine L_nil ?_
  refine W_block ?_
  refine W_while (σ := (TL Int) × Int) GT.dat (fun ((v4_0, v4_1) : (TL Int) × Int) => [(7, (TL.hdr v4_0)), (9, .int .i64 v4_1)]) (fun ((v4_0, v4_1) : (TL Int) × Int) => [treeH v4_0]) [(2, _), (3, _), (8, _)] [blk bk3 _ _] (X1, 0) hp (Sub.cons rfl (Sub.cons rfl (Sub.cons rfl (Sub.cons rfl (Sub.cons rfl (Sub.nil _)))))) (MSub.cons (by first | (with_reducible repeat (first | exact Pick.here _ | apply Pick.there)); done | (repeat (first | exact Pick.here _ | apply Pick.there))) (MSub.cons (by first | (with_reducible repeat (first | exact Pick.here _ | apply Pick.there)); done | (repeat (first | exact Pick.here _ | apply Pick.there))) (MSub.nil _))) ?_
  clear hp
  rintro ⟨v4_0, v4_1⟩ x4 hp hx4
  try dsimp only [dat_pair, dat_int, dat_bool, dat_str] at hp
  refine W_weaken (l' := [(2, _), (3, _), (7, _), (8, _), (9, _)]) (Sub.cons rfl (Sub.cons rfl (Sub.cons rfl (Sub.cons rfl (Sub.cons rfl (Sub.nil _)))))) (M' := [_, _]) (MSub.cons (by first | (with_reducible repeat (first | exact Pick.here _ | apply Pick.there)); done | (repeat (first | exact Pick.here _ | apply Pick.there))) (MSub.cons (by first | (with_reducible repeat (first | exact Pick.here _ | apply Pick.there)); done | (repeat (first | exact Pick.here _ | apply Pick.there))) (MSub.nil _))) ?_
  refine W_seq ?_
  refine W_seq ?_
  refine W_D0 [19] mix (by kernel_rfl) rfl ?_
  refine D_move GC.none (OpV.t rfl) ?_
  refine D_bin GC.none (OpV.t rfl) OpV.c (fun hg => bv_lss) ?_
  refine D_move GC.none (OpV.t rfl) ?_
  refine D_move (GC.some rfl rfl) (OpV.t rfl) ?_
  refine D_bin (GC.some rfl rfl) (OpV.s rfl) OpV.c (fun hg => bv_geq) ?_
  refine D_and (cy := _) GC.none (OpV.t rfl) (OpV.s rfl) (fun h hb => ⟨h, hb⟩) ?_
  refine DV_nil ?_
  refine Give_is rfl rfl ?_
  refine Give_drop rfl ?_
  refine Give_drop rfl ?_
  refine Give_drop rfl ?_
  refine Give_drop rfl ?_
  refine Give_drop rfl ?_
  refine Give_nil ?_
  refine W_weaken (l' := [(2, _), (3, _), (7, _), (8, _), (9, _), (19, _)]) (Sub.cons rfl (Sub.cons rfl (Sub.cons rfl (Sub.cons rfl (Sub.cons rfl (Sub.cons rfl (Sub.nil _))))))) (MSub.refl _) ?_
  refine W_cond rfl (fun hc5 => ?_) (fun hc5 => ?_)
  · skip
    replace hp := cond_t hc5 hp
    refine W_skip ?_
    refine W_seq ?_
    refine W_block ?_
    refine W_seq ?_
    have ho := hp; clear hp; obtain ⟨u6, hy6, hp⟩ := idx_bind ho; clear ho
    have ho := hp; clear hp; obtain ⟨u7, hy7, hp⟩ := idx_gb ho; clear ho
    obtain ⟨u7_1, u7_2, u7_3⟩ := u7
    have ho := hp; clear hp; obtain ⟨y8, hy8, hp⟩ := gb_any ho; clear ho
    refine W_D0 [35] mix (by kernel_rfl) rfl ?_
    refine D_move GC.none (OpV.t rfl) ?_
    refine D_move GC.none (OpV.t rfl) ?_
    refine D_idxA (X := a2) GC.none (OpV.t rfl) (OpV.t rfl) el101 (RdT.old h2) (fun _ => hy6) ?_
    refine D_load0 GC.none (OpV.t rfl) (fun hg => RdT.at (RdT.old h2) (hy6).2) one4 rfl ?_
    refine D_move GC.none (OpV.t rfl) ?_
    refine D_fieldAddr (GC.some rfl rfl) (OpV.t rfl) fld28_1 ?_
    refine D_load (GC.some rfl rfl) (OpV.s rfl) (fun hg => RdC.blk (by first | (with_reducible repeat (first | exact List.Mem.head _ | apply List.Mem.tail)); done | (repeat (first | exact List.Mem.head _ | apply List.Mem.tail)))) one26 rfl ?_
    refine D_move (GC.some rfl rfl) (OpV.t rfl) ?_
    refine D_idxA (X := a0_2) (GC.some rfl rfl) (OpV.s rfl) (OpV.s rfl) el26 (RdT.old h0.2) (fun hg => hy7 hg.2) ?_
    refine D_fieldAddr (GC.some rfl rfl) (OpV.s rfl) fld137_1 ?_
    refine D_load (GC.some rfl rfl) (OpV.s rfl) (fun hg => RdT.at (RdT.old h0.2) (hy7 hg.2).2) one49 rfl ?_
    refine D_move (GC.some rfl rfl) (OpV.t rfl) ?_
    refine D_callX (GC.some rfl rfl) fn92 (OpVs.cons (OpV.s rfl) (OpVs.cons (OpV.s rfl) (OpVs.nil))) (by exact fun hg w F hF hM => s_l18Has_walk w u7_2 v4_1 (RdT.nowS (RdT.fst (RdT.snd (RdT.of (RdT.old h0.2) (hy7 hg.2).2))) hF hM) _ (hy8 hg.2)) ?_
    refine D_and (cy := _) GC.none (OpV.t rfl) (OpV.s rfl) (fun h hb => ⟨h, hb⟩) ?_
    refine DV_nil ?_
    refine Give_is rfl rfl ?_
    refine Give_drop rfl ?_
    refine Give_drop rfl ?_
    refine Give_drop rfl ?_
    refine Give_drop rfl ?_
    refine Give_drop rfl ?_
    refine Give_drop rfl ?_
    refine Give_drop rfl ?_
    refine Give_drop rfl ?_
    refine Give_drop rfl ?_
    refine Give_drop rfl ?_
    refine Give_drop rfl ?_
    refine Give_drop rfl ?_
    refine Give_drop rfl ?_
    refine Give_nil ?_
    refine W_weaken (l' := [(2, _), (3, _), (7, _), (8, _), (9, _), (35, _)]) (Sub.cons rfl (Sub.cons rfl (Sub.cons rfl (Sub.cons rfl (Sub.cons rfl (Sub.cons rfl (Sub.nil _))))))) (MSub.refl _) ?_
    refine W_cond rfl (fun hc9 => ?_) (fun hc9 => ?_)
    · skip
      replace hp := cond_t hc9 hp
      refine W_region ?_
      refine L_move rfl rfl ?_
      refine L_move rfl rfl ?_
      refine L_buildSlice1 rfl rfl el49 rfl (by decide) (by decide) rfl (fun bb38 => ?_)
      have ho := hp; clear hp; obtain ⟨y11, hy11, hp⟩ := bind_any ho; clear ho
      refine L_app1F (X := v4_0) (v4_1 : Int) rfl rfl rfl el49 rfl rfl (by first | (with_reducible repeat (first | exact Pick.here _ | apply Pick.there)); done | (repeat (first | exact Pick.here _ | apply Pick.there))) (by first | (with_reducible repeat (first | exact List.Mem.head _ | apply List.Mem.tail)); done | (repeat (first | exact List.Mem.head _ | apply List.Mem.tail)))  hy11 (by decide) (fun X10 hdX10 => ?_)
      subst hdX10
      refine L_assign rfl rfl ?_
      refine L_nil ?_
      refine W_region ?_
      refine L_move rfl rfl ?_
      refine L_binV rfl rfl rfl bv_add ?_
      refine L_assign rfl rfl ?_
      refine L_nil ?_
      exact ⟨(X10, IntKind.wrap .i64 (v4_1 + 1)), (Sub.cons rfl (Sub.cons rfl (Sub.cons rfl (Sub.cons rfl (Sub.cons rfl (Sub.nil _)))))), (Arr.sub (MSub.cons (by first | (with_reducible repeat (first | exact Pick.here _ | apply Pick.there)); done | (repeat (first | exact Pick.here _ | apply Pick.there))) (MSub.cons (by first | (with_reducible repeat (first | exact Pick.here _ | apply Pick.there)); done | (repeat (first | exact Pick.here _ | apply Pick.there))) (MSub.nil _)))), some_eq hp⟩
    · skip
      replace hp := cond_f hc9 hp
      refine W_skip ?_
      refine W_region ?_
      refine L_move rfl rfl ?_
      refine L_binV rfl rfl rfl bv_add ?_
      refine L_assign rfl rfl ?_
      refine L_nil ?_
      exact ⟨(v4_0, IntKind.wrap .i64 (v4_1 + 1)), (Sub.cons rfl (Sub.cons rfl (Sub.cons rfl (Sub.cons rfl (Sub.cons rfl (Sub.nil _)))))), (Arr.sub (MSub.cons (by first | (with_reducible repeat (first | exact Pick.here _ | apply Pick.there)); done | (repeat (first | exact Pick.here _ | apply Pick.there))) (MSub.cons (by first | (with_reducible repeat (first | exact Pick.here _ | apply Pick.there)); done | (repeat (first | exact Pick.here _ | apply Pick.there))) (MSub.nil _)))), some_eq hp⟩
  · skip
    replace hp := cond_f hc5 hp
    refine W_exit ?_
    have ho := hp; clear hp; obtain ⟨a12, hp, hx_a12⟩ := map_any ho; clear ho
    obtain rfl := hx4 _ hx_a12
    refine W_seq ?_
    refine W_region ?_
    refine L_move rfl rfl ?_
    refine L_assign rfl rfl ?_
    refine L_nil ?_
    obtain rfl := Option.some.inj hp
    refine W_ret ?_
    refine res1 rfl (ResOK.tmp rfl) ⟨v4_0, rfl, rfl, rfl⟩ (MSub.cons (by first | (with_reducible repeat (first | exact Pick.here _ | apply Pick.there)); done | (repeat (first | exact Pick.here _ | apply Pick.there))) (MSub.nil _))

noncomputable def i_upOf (a0 : List Int) (a1 : List Bool) : Option (List Int) :=
  Option.bind (some ([] : List Int)) (fun y2 => whileP (fun s3 : (List Int) × Int => cond (decide (s3.2 < (a0.length : Int))) (Option.bind (idx a0 s3.2) (fun y5 => Option.bind (idx a1 y5) (fun y6 => cond y6 (Option.bind (appP s3.1 [y5]) (fun y9 => some (.inl ((y9, IntKind.wrap .i64 (s3.2 + 1)))))) (some (.inl ((s3.1, IntKind.wrap .i64 (s3.2 + 1)))))))) (Option.map .inr (some s3.1))) (y2, 0))

theorem i_upOf_walk (w : World) (a0 : TL Int) (a1 : TL Bool) (h0 : GT.rd w [] a0) (h1 : GT.rd w [] a1) (r : (List Int)) (hp : i_upOf (GT.dat a0) (GT.dat a1) = some r) : Spec Try.prog 158 [(TL.hdr a0), (TL.hdr a1)].toArray w [] (fun v M => ∃ (x0 : TL Int), v = (TL.hdr x0) ∧ GT.dat x0 = r ∧ M = [treeH x0]) := by
  refine Spec.intro Try.func158 rfl Try.ntmps158 rfl ?_
  unfold i_upOf at hp
  try dsimp only [dat_pair, dat_int, dat_bool, dat_str] at hp
  refine W_seq ?_
  refine W_region ?_
  refine L_assign (v := (TL.hdr (TL.nil Int 0))) rfl rfl ?_
  refine L_nil ?_
  refine W_seq ?_
  refine W_region ?_
  have ho := hp; clear hp; obtain ⟨y2, hy2, hp⟩ := bind_any ho; clear ho
  refine L_mk0 Int rfl el49 (fun X1 hdX1 => ?_)
  obtain rfl : GT.dat X1 = y2 := hdX1.trans (Option.some.inj hy2)
  clear hy2 hdX1
  refine L_assign rfl rfl ?_
  refine L_nil ?_
  refine W_seq ?_
  refine W_seq ?_
  refine W_region ?_
  refine L_move rfl rfl ?_
  refine L_lenP (X := a0) rfl rfl el49 ?_
  refine L_move rfl rfl ?_
  refine L_nil ?_
  refine W_block ?_
  refine W_while (σ := (TL Int) × Int) GT.dat (fun ((v3_0, v3_1) : (TL Int) × Int) => [(5, (TL.hdr v3_0)), (11, .int .i64 v3_1)]) (fun ((v3_0, v3_1) : (TL Int) × Int) => [treeH v3_0]) [(1, _), (9, _), (10, _)] [] (X1, 0) hp (Sub.cons rfl (Sub.cons rfl (Sub.cons rfl (Sub.cons rfl (Sub.cons rfl (Sub.nil _)))))) (MSub.cons (by first | (with_reducible repeat (first | exact Pick.here _ | apply Pick.there)); done | (repeat (first | exact Pick.here _ | apply Pick.there))) (MSub.nil _)) ?_
  clear hp
  rintro ⟨v3_0, v3_1⟩ x3 hp hx3
  try dsimp only [dat_pair, dat_int, dat_bool, dat_str] at hp
  refine W_weaken (l' := [(1, _), (5, _), (9, _), (10, _), (11, _)]) (Sub.cons rfl (Sub.cons rfl (Sub.cons rfl (Sub.cons rfl (Sub.cons rfl (Sub.nil _)))))) (M' := [_]) (MSub.cons (by first | (with_reducible repeat (first | exact Pick.here _ | apply Pick.there)); done | (repeat (first | exact Pick.here _ | apply Pick.there))) (MSub.nil _)) ?_
  refine W_seq ?_
  refine W_region ?_
  refine L_binV rfl rfl rfl bv_lss ?_
  refine L_nil ?_
  refine W_seq ?_
  refine W_weaken (l' := [(1, _), (5, _), (9, _), (10, _), (11, _), (12, _)]) (Sub.cons rfl (Sub.cons rfl (Sub.cons rfl (Sub.cons rfl (Sub.cons rfl (Sub.cons rfl (Sub.nil _))))))) (MSub.refl _) ?_
  refine W_cond rfl (fun hc4 => ?_) (fun hc4 => ?_)
  · skip
    replace hp := cond_t hc4 hp
    refine W_skip ?_
    refine W_seq ?_
    refine W_block ?_
    refine W_seq ?_
    refine W_region ?_
    have ho := hp; clear hp; obtain ⟨u5, hy5, hp⟩ := idx_bind ho; clear ho
    refine L_idxA (X := a0) rfl rfl rfl el49 (RdT.old h0) hy5 ?_
    refine L_load0 rfl rfl (RdT.at (RdT.old h0) (hy5).2) one3 rfl ?_
    refine L_assign rfl rfl ?_
    refine L_nil ?_
    refine W_seq ?_
    refine W_region ?_
    refine L_move rfl rfl ?_
    refine L_move rfl rfl ?_
    have ho := hp; clear hp; obtain ⟨u6, hy6, hp⟩ := idx_bind ho; clear ho
    refine L_idxA (X := a1) rfl rfl rfl el101 (RdT.old h1) hy6 ?_
    refine L_load0 rfl rfl (RdT.at (RdT.old h1) (hy6).2) one4 rfl ?_
    refine L_nil ?_
    refine W_weaken (l' := [(1, _), (5, _), (7, _), (9, _), (10, _), (11, _), (18, _)]) (Sub.cons rfl (Sub.cons rfl (Sub.cons rfl (Sub.cons rfl (Sub.cons rfl (Sub.cons rfl (Sub.cons rfl (Sub.nil _)))))))) (MSub.refl _) ?_
    refine W_cond rfl (fun hc7 => ?_) (fun hc7 => ?_)
    · skip
      replace hp := cond_t hc7 hp
      refine W_region ?_
      refine L_move rfl rfl ?_
      refine L_move rfl rfl ?_
      refine L_buildSlice1 rfl rfl el49 rfl (by decide) (by decide) rfl (fun bb21 => ?_)
      have ho := hp; clear hp; obtain ⟨y9, hy9, hp⟩ := bind_any ho; clear ho
      refine L_app1F (X := v3_0) (u5 : Int) rfl rfl rfl el49 rfl rfl (by first | (with_reducible repeat (first | exact Pick.here _ | apply Pick.there)); done | (repeat (first | exact Pick.here _ | apply Pick.there))) (by first | (with_reducible repeat (first | exact List.Mem.head _ | apply List.Mem.tail)); done | (repeat (first | exact List.Mem.head _ | apply List.Mem.tail)))  hy9 (by decide) (fun X8 hdX8 => ?_)
      subst hdX8
      refine L_assign rfl rfl ?_
      refine L_nil ?_
      refine W_region ?_
      refine L_binV rfl rfl rfl bv_add ?_
      refine L_move rfl rfl ?_
      refine L_nil ?_
      exact ⟨(X8, IntKind.wrap .i64 (v3_1 + 1)), (Sub.cons rfl (Sub.cons rfl (Sub.cons rfl (Sub.cons rfl (Sub.cons rfl (Sub.nil _)))))), (Arr.sub (MSub.cons (by first | (with_reducible repeat (first | exact Pick.here _ | apply Pick.there)); done | (repeat (first | exact Pick.here _ | apply Pick.there))) (MSub.nil _))), some_eq hp⟩
    · skip
      replace hp := cond_f hc7 hp
      refine W_skip ?_
      refine W_region ?_
      refine L_binV rfl rfl rfl bv_add ?_
      refine L_move rfl rfl ?_
      refine L_nil ?_
      exact ⟨(v3_0, IntKind.wrap .i64 (v3_1 + 1)), (Sub.cons rfl (Sub.cons rfl (Sub.cons rfl (Sub.cons rfl (Sub.cons rfl (Sub.nil _)))))), (Arr.sub (MSub.cons (by first | (with_reducible repeat (first | exact Pick.here _ | apply Pick.there)); done | (repeat (first | exact Pick.here _ | apply Pick.there))) (MSub.nil _))), some_eq hp⟩
  · skip
    replace hp := cond_f hc4 hp
    refine W_exit ?_
    have ho := hp; clear hp; obtain ⟨a10, hp, hx_a10⟩ := map_any ho; clear ho
    obtain rfl := hx3 _ hx_a10
    refine W_seq ?_
    refine W_region ?_
    refine L_move rfl rfl ?_
    refine L_assign rfl rfl ?_
    refine L_nil ?_
    obtain rfl := Option.some.inj hp
    refine W_ret ?_
    refine res1 rfl (ResOK.tmp rfl) ⟨v3_0, rfl, rfl, rfl⟩ (MSub.cons (by first | (with_reducible repeat (first | exact Pick.here _ | apply Pick.there)); done | (repeat (first | exact Pick.here _ | apply Pick.there))) (MSub.nil _))

noncomputable def s_Lost (a0 : D_Catalog) (a1 : D_Ups) (a2 : List Bool) : Option (List ByteArray) :=
  Option.bind (some ([] : List ByteArray)) (fun y2 => Option.bind (s_CatOk a0) (fun y3 => gb (!(!y3)) (s_UpsOk (a1.1, a1.2)) (fun y4 => cond (((!y3) || (!y4)) || (!decide ((a2.length : Int) = 3))) (some y2) (Option.bind (s_AllChunks a0) (fun y6 => whileP (fun s7 : (List ByteArray) × Int => cond (decide (s7.2 < (y6.length : Int))) (Option.bind (idx y6 s7.2) (fun y9 => Option.bind (s_l20Have (a1.1, a1.2) y9 a2) (fun y10 => cond (decide ((y10.length : Int) = 0)) (Option.bind (idx y6 s7.2) (fun y12 => Option.bind (appP s7.1 [y12]) (fun y14 => some (.inl ((y14, IntKind.wrap .i64 (s7.2 + 1))))))) (some (.inl ((s7.1, IntKind.wrap .i64 (s7.2 + 1)))))))) (Option.map .inr (some s7.1))) (y2, 0))))))

theorem s_Lost_walk (w : World) (a0 : T_Catalog) (a1 : T_Ups) (a2 : TL Bool) (h0 : GT.rd w [] a0) (h1 : GT.rd w [] a1) (h2 : GT.rd w [] a2) (r : (List ByteArray)) (hp : s_Lost (GT.dat a0) (GT.dat a1) (GT.dat a2) = some r) : Spec Try.prog 66 [.agg (GT.cells a0).toArray, .agg (GT.cells a1).toArray, (TL.hdr a2)].toArray w [] (fun v M => ∃ (x0 : TL ByteArray), v = (TL.hdr x0) ∧ GT.dat x0 = r ∧ M = [treeH x0]) := by
  obtain ⟨a1_1, a1_2⟩ := a1
  change Spec _ _ ([Value.agg #[(TL.hdr a0)], Value.agg #[.int .i64 a1_1, (TL.hdr a1_2)], (TL.hdr a2)] : List Value).toArray w [] _
  refine Spec.intro Try.func66 rfl Try.ntmps66 rfl ?_
  unfold s_Lost at hp
  try dsimp only [dat_pair, dat_int, dat_bool, dat_str] at hp
  refine W_seq ?_
  refine W_region ?_
  refine L_box rfl rfl (fun bk3 => ?_)
  refine L_box rfl rfl (fun bk4 => ?_)
  refine L_assign (v := (TL.hdr (TL.nil ByteArray 0))) rfl rfl ?_
  refine L_nil ?_
  refine W_seq ?_
  refine W_region ?_
  have ho := hp; clear hp; obtain ⟨y2, hy2, hp⟩ := bind_any ho; clear ho
  refine L_mk0 ByteArray rfl el48 (fun X1 hdX1 => ?_)
  obtain rfl : GT.dat X1 = y2 := hdX1.trans (Option.some.inj hy2)
  clear hy2 hdX1
  refine L_assign rfl rfl ?_
  refine L_nil ?_
  refine W_seq ?_
  refine W_seq ?_
  have ho := hp; clear hp; obtain ⟨y3, hy3, hp⟩ := bind_any ho; clear ho
  have ho := hp; clear hp; obtain ⟨y4, hy4, hp⟩ := gb_any ho; clear ho
  refine W_D0 [23] mix (by kernel_rfl) rfl ?_
  refine D_loadW GC.none (OpV.t rfl) (fun hg => RdC.blk (by first | (with_reducible repeat (first | exact List.Mem.head _ | apply List.Mem.tail)); done | (repeat (first | exact List.Mem.head _ | apply List.Mem.tail)))) (by exact agg97) ?_
  refine D_callX GC.none fn151 (OpVs.cons (OpV.t rfl) (OpVs.nil)) (by exact fun hg w F hF hM => s_CatOk_walk w a0 (RdT.nowS (RdT.old h0) hF hM) _ hy3) ?_
  refine D_not GC.none (OpV.t rfl) ?_
  refine D_move GC.none (OpV.t rfl) ?_
  refine D_loadW (GC.some rfl rfl) (OpV.t rfl) (fun hg => RdC.blk (by first | (with_reducible repeat (first | exact List.Mem.head _ | apply List.Mem.tail)); done | (repeat (first | exact List.Mem.head _ | apply List.Mem.tail)))) (by exact agg28) ?_
  refine D_callX (GC.some rfl rfl) fn85 (OpVs.cons (OpV.s rfl) (OpVs.nil)) (by exact fun hg w F hF hM => s_UpsOk_walk w (a1_1, a1_2) (RdT.nowS (RdT.pair RdT.int (RdT.old h1.2)) hF hM) _ (hy4 (gnot hg.2))) ?_
  refine D_not (GC.some rfl rfl) (OpV.s rfl) ?_
  refine D_or (cy := _) GC.none (OpV.t rfl) (OpV.s rfl) (fun h hb => ⟨h, hb⟩) ?_
  refine D_move GC.none (OpV.t rfl) ?_
  refine D_move (GC.some rfl rfl) (OpV.t rfl) ?_
  refine D_lenP (X := a2) (GC.some rfl rfl) (OpV.s rfl) el101 ?_
  refine D_bin (GC.some rfl rfl) (OpV.s rfl) OpV.c (fun hg => bv_neq) ?_
  refine D_or (cy := _) GC.none (OpV.t rfl) (OpV.s rfl) (fun h hb => ⟨h, hb⟩) ?_
  refine DV_nil ?_
  refine Give_is rfl rfl ?_
  refine Give_drop rfl ?_
  refine Give_drop rfl ?_
  refine Give_drop rfl ?_
  refine Give_drop rfl ?_
  refine Give_drop rfl ?_
  refine Give_drop rfl ?_
  refine Give_drop rfl ?_
  refine Give_drop rfl ?_
  refine Give_drop rfl ?_
  refine Give_drop rfl ?_
  refine Give_drop rfl ?_
  refine Give_drop rfl ?_
  refine Give_nil ?_
  refine W_weaken (l' := [(2, _), (3, _), (4, _), (7, _), (23, _)]) (Sub.cons rfl (Sub.cons rfl (Sub.cons rfl (Sub.cons rfl (Sub.cons rfl (Sub.nil _)))))) (MSub.refl _) ?_
  refine W_cond rfl (fun hc5 => ?_) (fun hc5 => ?_)
  · skip
    replace hp := cond_t hc5 hp
    refine W_seq ?_
    refine W_region ?_
    refine L_move rfl rfl ?_
    refine L_assign rfl rfl ?_
    refine L_nil ?_
    obtain rfl := Option.some.inj hp
    refine W_ret ?_
    refine res1 rfl (ResOK.tmp rfl) ⟨X1, rfl, rfl, rfl⟩ (MSub.cons (by first | (with_reducible repeat (first | exact Pick.here _ | apply Pick.there)); done | (repeat (first | exact Pick.here _ | apply Pick.there))) (MSub.nil _))
  · skip
    replace hp := cond_f hc5 hp
    refine W_skip ?_
    refine W_seq ?_
    refine W_region ?_
    refine L_loadW rfl rfl (RdC.blk (by first | (with_reducible repeat (first | exact List.Mem.head _ | apply List.Mem.tail)); done | (repeat (first | exact List.Mem.head _ | apply List.Mem.tail)))) (by exact agg97) ?_
    have ho := hp; clear hp; obtain ⟨y6, hy6, hp⟩ := bind_any ho; clear ho
    refine L_callR rfl fn152 rfl (by exact fun w hw => s_AllChunks_walk w a0 (RdT.now (RdT.old h0) hw) _ hy6) ?_
    rintro vy6 My6 ⟨y6x0, hvy6, hdy6, rfl⟩
    subst hvy6
    subst hdy6
    simp only [cells_pair, cells_int, cells_bool, cells_str, cells_TL, List.cons_append, List.nil_append]
    try dsimp only [dat_pair, dat_int, dat_bool, dat_str] at hp
    refine L_assign rfl rfl ?_
    refine L_nil ?_
    refine W_seq ?_
    refine W_seq ?_
    refine W_region ?_
    refine L_assign rfl rfl ?_
    refine L_nil ?_
    refine W_block ?_
    refine W_while (σ := (TL ByteArray) × Int) GT.dat (fun ((v7_0, v7_1) : (TL ByteArray) × Int) => [(7, (TL.hdr v7_0)), (9, .int .i64 v7_1)]) (fun ((v7_0, v7_1) : (TL ByteArray) × Int) => [treeH v7_0]) [(2, _), (4, _), (8, _)] [blk bk4 _ _, treeH y6x0] (X1, 0) hp (Sub.cons rfl (Sub.cons rfl (Sub.cons rfl (Sub.cons rfl (Sub.cons rfl (Sub.nil _)))))) (MSub.cons (by first | (with_reducible repeat (first | exact Pick.here _ | apply Pick.there)); done | (repeat (first | exact Pick.here _ | apply Pick.there))) (MSub.cons (by first | (with_reducible repeat (first | exact Pick.here _ | apply Pick.there)); done | (repeat (first | exact Pick.here _ | apply Pick.there))) (MSub.cons (by first | (with_reducible repeat (first | exact Pick.here _ | apply Pick.there)); done | (repeat (first | exact Pick.here _ | apply Pick.there))) (MSub.nil _)))) ?_
    clear hp
    rintro ⟨v7_0, v7_1⟩ x7 hp hx7
    try dsimp only [dat_pair, dat_int, dat_bool, dat_str] at hp
    refine W_weaken (l' := [(2, _), (4, _), (7, _), (8, _), (9, _)]) (Sub.cons rfl (Sub.cons rfl (Sub.cons rfl (Sub.cons rfl (Sub.cons rfl (Sub.nil _)))))) (M' := [_, _, _]) (MSub.cons (by first | (with_reducible repeat (first | exact Pick.here _ | apply Pick.there)); done | (repeat (first | exact Pick.here _ | apply Pick.there))) (MSub.cons (by first | (with_reducible repeat (first | exact Pick.here _ | apply Pick.there)); done | (repeat (first | exact Pick.here _ | apply Pick.there))) (MSub.cons (by first | (with_reducible repeat (first | exact Pick.here _ | apply Pick.there)); done | (repeat (first | exact Pick.here _ | apply Pick.there))) (MSub.nil _)))) ?_
    refine W_seq ?_
    refine W_seq ?_
    refine W_region ?_
    refine L_move rfl rfl ?_
    refine L_move rfl rfl ?_
    refine L_lenP (X := y6x0) rfl rfl el48 ?_
    refine L_binV rfl rfl rfl bv_lss ?_
    refine L_nil ?_
    refine W_weaken (l' := [(2, _), (4, _), (7, _), (8, _), (9, _), (30, _)]) (Sub.cons rfl (Sub.cons rfl (Sub.cons rfl (Sub.cons rfl (Sub.cons rfl (Sub.cons rfl (Sub.nil _))))))) (MSub.refl _) ?_
    refine W_cond rfl (fun hc8 => ?_) (fun hc8 => ?_)
    · skip
      replace hp := cond_t hc8 hp
      refine W_skip ?_
      refine W_seq ?_
      refine W_block ?_
      refine W_seq ?_
      have ho := hp; clear hp; obtain ⟨u9, hy9, hp⟩ := idx_bind ho; clear ho
      refine W_DS (pre := [_, _, _, _, _, _]) (suf := [_, _, _]) [33, 37, 38] [] _ (perm_nil_left _) mix (by kernel_rfl) (by kernel_rfl) rfl ?_
      refine D_loadW GC.none (OpV.t rfl) (fun hg => RdC.blk (by first | (with_reducible repeat (first | exact List.Mem.head _ | apply List.Mem.tail)); done | (repeat (first | exact List.Mem.head _ | apply List.Mem.tail)))) (by exact agg28) ?_
      refine D_move GC.none (OpV.t rfl) ?_
      refine D_move GC.none (OpV.t rfl) ?_
      refine D_idxA (X := y6x0) GC.none (OpV.t rfl) (OpV.t rfl) el48 (RdT.tree (by first | (with_reducible repeat (first | exact List.Mem.head _ | apply List.Mem.tail)); done | (repeat (first | exact List.Mem.head _ | apply List.Mem.tail)))) (fun _ => hy9) ?_
      refine D_load0 GC.none (OpV.t rfl) (fun hg => RdT.at (RdT.tree (by first | (with_reducible repeat (first | exact List.Mem.head _ | apply List.Mem.tail)); done | (repeat (first | exact List.Mem.head _ | apply List.Mem.tail)))) (hy9).2) one9 rfl ?_
      refine D_move GC.none (OpV.t rfl) ?_
      refine DV_nil ?_
      refine Give_is rfl rfl ?_
      refine Give_is rfl rfl ?_
      refine Give_drop rfl ?_
      refine Give_drop rfl ?_
      refine Give_drop rfl ?_
      refine Give_is rfl rfl ?_
      refine Give_nil ?_
      have ho := hp; clear hp; obtain ⟨y10, hy10, hp⟩ := bind_any ho; clear ho
      refine L_callR rfl fn157 rfl (by exact fun w hw => s_l20Have_walk w (a1_1, a1_2) u9 a2 (RdT.now (RdT.pair RdT.int (RdT.old h1.2)) hw) (RdT.now (RdT.old h2) hw) _ hy10) ?_
      rintro vy10 My10 ⟨y10x0, hvy10, hdy10, rfl⟩
      subst hvy10
      subst hdy10
      simp only [cells_pair, cells_int, cells_bool, cells_str, cells_TL, List.cons_append, List.nil_append]
      try dsimp only [dat_pair, dat_int, dat_bool, dat_str] at hp
      refine L_lenP (X := y10x0) rfl rfl el49 ?_
      refine L_binV rfl rfl rfl bv_eql ?_
      refine L_nil ?_
      refine W_weaken (l' := [(2, _), (4, _), (7, _), (8, _), (9, _), (41, _)]) (Sub.cons rfl (Sub.cons rfl (Sub.cons rfl (Sub.cons rfl (Sub.cons rfl (Sub.cons rfl (Sub.nil _))))))) (MSub.refl _) ?_
      refine W_cond rfl (fun hc11 => ?_) (fun hc11 => ?_)
      · skip
        replace hp := cond_t hc11 hp
        refine W_region ?_
        refine L_move rfl rfl ?_
        refine L_move rfl rfl ?_
        refine L_move rfl rfl ?_
        have ho := hp; clear hp; obtain ⟨u12, hy12, hp⟩ := idx_bind ho; clear ho
        obtain rfl : u9 = u12 := Option.some.inj (hy9.2.symm.trans hy12.2)
        refine L_idxA (X := y6x0) rfl rfl rfl el48 (RdT.tree (by first | (with_reducible repeat (first | exact List.Mem.head _ | apply List.Mem.tail)); done | (repeat (first | exact List.Mem.head _ | apply List.Mem.tail)))) hy9 ?_
        refine L_load0 rfl rfl (RdT.at (RdT.tree (by first | (with_reducible repeat (first | exact List.Mem.head _ | apply List.Mem.tail)); done | (repeat (first | exact List.Mem.head _ | apply List.Mem.tail)))) (hy9).2) one9 rfl ?_
        refine L_buildSlice1 rfl rfl el48 rfl (by decide) (by decide) rfl (fun bb47 => ?_)
        have ho := hp; clear hp; obtain ⟨y14, hy14, hp⟩ := bind_any ho; clear ho
        refine L_app1F (X := v7_0) (u9 : ByteArray) rfl rfl rfl el48 rfl rfl (by first | (with_reducible repeat (first | exact Pick.here _ | apply Pick.there)); done | (repeat (first | exact Pick.here _ | apply Pick.there))) (by first | (with_reducible repeat (first | exact List.Mem.head _ | apply List.Mem.tail)); done | (repeat (first | exact List.Mem.head _ | apply List.Mem.tail)))  hy14 (by decide) (fun X13 hdX13 => ?_)
        subst hdX13
        refine L_assign rfl rfl ?_
        refine L_nil ?_
        refine W_region ?_
        refine L_move rfl rfl ?_
        refine L_binV rfl rfl rfl bv_add ?_
        refine L_assign rfl rfl ?_
        refine L_nil ?_
        exact ⟨(X13, IntKind.wrap .i64 (v7_1 + 1)), (Sub.cons rfl (Sub.cons rfl (Sub.cons rfl (Sub.cons rfl (Sub.cons rfl (Sub.nil _)))))), (Arr.sub (MSub.cons (by first | (with_reducible repeat (first | exact Pick.here _ | apply Pick.there)); done | (repeat (first | exact Pick.here _ | apply Pick.there))) (MSub.cons (by first | (with_reducible repeat (first | exact Pick.here _ | apply Pick.there)); done | (repeat (first | exact Pick.here _ | apply Pick.there))) (MSub.cons (by first | (with_reducible repeat (first | exact Pick.here _ | apply Pick.there)); done | (repeat (first | exact Pick.here _ | apply Pick.there))) (MSub.nil _))))), some_eq hp⟩
      · skip
        replace hp := cond_f hc11 hp
        refine W_skip ?_
        refine W_region ?_
        refine L_move rfl rfl ?_
        refine L_binV rfl rfl rfl bv_add ?_
        refine L_assign rfl rfl ?_
        refine L_nil ?_
        exact ⟨(v7_0, IntKind.wrap .i64 (v7_1 + 1)), (Sub.cons rfl (Sub.cons rfl (Sub.cons rfl (Sub.cons rfl (Sub.cons rfl (Sub.nil _)))))), (Arr.sub (MSub.cons (by first | (with_reducible repeat (first | exact Pick.here _ | apply Pick.there)); done | (repeat (first | exact Pick.here _ | apply Pick.there))) (MSub.cons (by first | (with_reducible repeat (first | exact Pick.here _ | apply Pick.there)); done | (repeat (first | exact Pick.here _ | apply Pick.there))) (MSub.cons (by first | (with_reducible repeat (first | exact Pick.here _ | apply Pick.there)); done | (repeat (first | exact Pick.here _ | apply Pick.there))) (MSub.nil _))))), some_eq hp⟩
    · skip
      replace hp := cond_f hc8 hp
      refine W_exit ?_
      have ho := hp; clear hp; obtain ⟨a15, hp, hx_a15⟩ := map_any ho; clear ho
      obtain rfl := hx7 _ hx_a15
      refine W_seq ?_
      refine W_region ?_
      refine L_move rfl rfl ?_
      refine L_assign rfl rfl ?_
      refine L_nil ?_
      obtain rfl := Option.some.inj hp
      refine W_ret ?_
      refine res1 rfl (ResOK.tmp rfl) ⟨v7_0, rfl, rfl, rfl⟩ (MSub.cons (by first | (with_reducible repeat (first | exact Pick.here _ | apply Pick.there)); done | (repeat (first | exact Pick.here _ | apply Pick.there))) (MSub.nil _))

noncomputable def i_Lost (a0 : D_Catalog) (a1 : D_Ups) (a2 : List Bool) : Option (List ByteArray) :=
  Option.bind (i_CatOk a0) (fun y1 => gb (!(!y1)) (i_UpsOk (a1.1, a1.2)) (fun y2 => cond (((!y1) || (!y2)) || (!decide ((a2.length : Int) = 3))) (some ([] : List ByteArray)) (Option.bind (some ([] : List ByteArray)) (fun y5 => Option.bind (i_AllChunks a0) (fun y6 => whileP (fun s7 : (List ByteArray) × Int => cond (decide (s7.2 < (y6.length : Int))) (Option.bind (idx y6 s7.2) (fun y9 => Option.bind (i_Ups_nodes (a1.1, a1.2) y9) (fun y10 => Option.bind (i_upOf y10 a2) (fun y11 => cond (decide ((y11.length : Int) = 0)) (Option.bind (appP s7.1 [y9]) (fun y14 => some (.inl ((y14, IntKind.wrap .i64 (s7.2 + 1)))))) (some (.inl ((s7.1, IntKind.wrap .i64 (s7.2 + 1))))))))) (Option.map .inr (some s7.1))) (y5, 0))))))

theorem i_Lost_walk (w : World) (a0 : T_Catalog) (a1 : T_Ups) (a2 : TL Bool) (h0 : GT.rd w [] a0) (h1 : GT.rd w [] a1) (h2 : GT.rd w [] a2) (r : (List ByteArray)) (hp : i_Lost (GT.dat a0) (GT.dat a1) (GT.dat a2) = some r) : Spec Try.prog 68 [.agg (GT.cells a0).toArray, .agg (GT.cells a1).toArray, (TL.hdr a2)].toArray w [] (fun v M => ∃ (x0 : TL ByteArray), v = (TL.hdr x0) ∧ GT.dat x0 = r ∧ M = [treeH x0]) := by
  obtain ⟨a1_1, a1_2⟩ := a1
  change Spec _ _ ([Value.agg #[(TL.hdr a0)], Value.agg #[.int .i64 a1_1, (TL.hdr a1_2)], (TL.hdr a2)] : List Value).toArray w [] _
  refine Spec.intro Try.func68 rfl Try.ntmps68 rfl ?_
  unfold i_Lost at hp
  try dsimp only [dat_pair, dat_int, dat_bool, dat_str] at hp
  refine W_seq ?_
  refine W_region ?_
  refine L_box rfl rfl (fun bk3 => ?_)
  refine L_box rfl rfl (fun bk4 => ?_)
  refine L_assign (v := (TL.hdr (TL.nil ByteArray 0))) rfl rfl ?_
  refine L_nil ?_
  refine W_seq ?_
  refine W_seq ?_
  have ho := hp; clear hp; obtain ⟨y1, hy1, hp⟩ := bind_any ho; clear ho
  have ho := hp; clear hp; obtain ⟨y2, hy2, hp⟩ := gb_any ho; clear ho
  refine W_D0 [22] mix (by kernel_rfl) rfl ?_
  refine D_loadW GC.none (OpV.t rfl) (fun hg => RdC.blk (by first | (with_reducible repeat (first | exact List.Mem.head _ | apply List.Mem.tail)); done | (repeat (first | exact List.Mem.head _ | apply List.Mem.tail)))) (by exact agg97) ?_
  refine D_callX GC.none fn155 (OpVs.cons (OpV.t rfl) (OpVs.nil)) (by exact fun hg w F hF hM => i_CatOk_walk w a0 (RdT.nowS (RdT.old h0) hF hM) _ hy1) ?_
  refine D_not GC.none (OpV.t rfl) ?_
  refine D_move GC.none (OpV.t rfl) ?_
  refine D_loadW (GC.some rfl rfl) (OpV.t rfl) (fun hg => RdC.blk (by first | (with_reducible repeat (first | exact List.Mem.head _ | apply List.Mem.tail)); done | (repeat (first | exact List.Mem.head _ | apply List.Mem.tail)))) (by exact agg28) ?_
  refine D_callX (GC.some rfl rfl) fn97 (OpVs.cons (OpV.s rfl) (OpVs.nil)) (by exact fun hg w F hF hM => i_UpsOk_walk w (a1_1, a1_2) (RdT.nowS (RdT.pair RdT.int (RdT.old h1.2)) hF hM) _ (hy2 (gnot hg.2))) ?_
  refine D_not (GC.some rfl rfl) (OpV.s rfl) ?_
  refine D_or (cy := _) GC.none (OpV.t rfl) (OpV.s rfl) (fun h hb => ⟨h, hb⟩) ?_
  refine D_move GC.none (OpV.t rfl) ?_
  refine D_move (GC.some rfl rfl) (OpV.t rfl) ?_
  refine D_lenP (X := a2) (GC.some rfl rfl) (OpV.s rfl) el101 ?_
  refine D_bin (GC.some rfl rfl) (OpV.s rfl) OpV.c (fun hg => bv_neq) ?_
  refine D_or (cy := _) GC.none (OpV.t rfl) (OpV.s rfl) (fun h hb => ⟨h, hb⟩) ?_
  refine DV_nil ?_
  refine Give_is rfl rfl ?_
  refine Give_drop rfl ?_
  refine Give_drop rfl ?_
  refine Give_drop rfl ?_
  refine Give_drop rfl ?_
  refine Give_drop rfl ?_
  refine Give_drop rfl ?_
  refine Give_drop rfl ?_
  refine Give_drop rfl ?_
  refine Give_drop rfl ?_
  refine Give_drop rfl ?_
  refine Give_drop rfl ?_
  refine Give_drop rfl ?_
  refine Give_nil ?_
  refine W_weaken (l' := [(2, _), (3, _), (4, _), (22, _)]) (Sub.cons rfl (Sub.cons rfl (Sub.cons rfl (Sub.cons rfl (Sub.nil _))))) (MSub.refl _) ?_
  refine W_cond rfl (fun hc3 => ?_) (fun hc3 => ?_)
  · skip
    replace hp := cond_t hc3 hp
    refine W_seq ?_
    refine W_region ?_
    refine L_assign (v := (TL.hdr (TL.nil ByteArray 0))) rfl rfl ?_
    refine L_nil ?_
    obtain rfl := Option.some.inj hp
    refine W_conv (M' := treeH (TL.nil ByteArray 0) :: _) (fun w h => addNilT (τ := ByteArray) 0 h) ?_
    refine W_ret ?_
    refine res1 rfl (ResOK.tmp rfl) ⟨(TL.nil ByteArray 0), rfl, rfl, rfl⟩ (MSub.cons (by first | (with_reducible repeat (first | exact Pick.here _ | apply Pick.there)); done | (repeat (first | exact Pick.here _ | apply Pick.there))) (MSub.nil _))
  · skip
    replace hp := cond_f hc3 hp
    refine W_skip ?_
    refine W_seq ?_
    refine W_region ?_
    have ho := hp; clear hp; obtain ⟨y5, hy5, hp⟩ := bind_any ho; clear ho
    refine L_mk0 ByteArray rfl el48 (fun X4 hdX4 => ?_)
    obtain rfl : GT.dat X4 = y5 := hdX4.trans (Option.some.inj hy5)
    clear hy5 hdX4
    refine L_assign rfl rfl ?_
    refine L_nil ?_
    refine W_seq ?_
    refine W_seq ?_
    refine W_region ?_
    refine L_loadW rfl rfl (RdC.blk (by first | (with_reducible repeat (first | exact List.Mem.head _ | apply List.Mem.tail)); done | (repeat (first | exact List.Mem.head _ | apply List.Mem.tail)))) (by exact agg97) ?_
    have ho := hp; clear hp; obtain ⟨y6, hy6, hp⟩ := bind_any ho; clear ho
    refine L_callR rfl fn154 rfl (by exact fun w hw => i_AllChunks_walk w a0 (RdT.now (RdT.old h0) hw) _ hy6) ?_
    rintro vy6 My6 ⟨y6x0, hvy6, hdy6, rfl⟩
    subst hvy6
    subst hdy6
    simp only [cells_pair, cells_int, cells_bool, cells_str, cells_TL, List.cons_append, List.nil_append]
    try dsimp only [dat_pair, dat_int, dat_bool, dat_str] at hp
    refine L_lenP (X := y6x0) rfl rfl el48 ?_
    refine L_move rfl rfl ?_
    refine L_nil ?_
    refine W_block ?_
    refine W_while (σ := (TL ByteArray) × Int) GT.dat (fun ((v7_0, v7_1) : (TL ByteArray) × Int) => [(7, (TL.hdr v7_0)), (27, .int .i64 v7_1)]) (fun ((v7_0, v7_1) : (TL ByteArray) × Int) => [treeH v7_0]) [(2, _), (4, _), (25, _), (26, _)] [blk bk4 _ _, treeH y6x0] (X4, 0) hp (Sub.cons rfl (Sub.cons rfl (Sub.cons rfl (Sub.cons rfl (Sub.cons rfl (Sub.cons rfl (Sub.nil _))))))) (MSub.cons (by first | (with_reducible repeat (first | exact Pick.here _ | apply Pick.there)); done | (repeat (first | exact Pick.here _ | apply Pick.there))) (MSub.cons (by first | (with_reducible repeat (first | exact Pick.here _ | apply Pick.there)); done | (repeat (first | exact Pick.here _ | apply Pick.there))) (MSub.cons (by first | (with_reducible repeat (first | exact Pick.here _ | apply Pick.there)); done | (repeat (first | exact Pick.here _ | apply Pick.there))) (MSub.nil _)))) ?_
    clear hp
    rintro ⟨v7_0, v7_1⟩ x7 hp hx7
    try dsimp only [dat_pair, dat_int, dat_bool, dat_str] at hp
    refine W_weaken (l' := [(2, _), (4, _), (7, _), (25, _), (26, _), (27, _)]) (Sub.cons rfl (Sub.cons rfl (Sub.cons rfl (Sub.cons rfl (Sub.cons rfl (Sub.cons rfl (Sub.nil _))))))) (M' := [_, _, _]) (MSub.cons (by first | (with_reducible repeat (first | exact Pick.here _ | apply Pick.there)); done | (repeat (first | exact Pick.here _ | apply Pick.there))) (MSub.cons (by first | (with_reducible repeat (first | exact Pick.here _ | apply Pick.there)); done | (repeat (first | exact Pick.here _ | apply Pick.there))) (MSub.cons (by first | (with_reducible repeat (first | exact Pick.here _ | apply Pick.there)); done | (repeat (first | exact Pick.here _ | apply Pick.there))) (MSub.nil _)))) ?_
    refine W_seq ?_
    refine W_region ?_
    refine L_binV rfl rfl rfl bv_lss ?_
    refine L_nil ?_
    refine W_seq ?_
    refine W_weaken (l' := [(2, _), (4, _), (7, _), (25, _), (26, _), (27, _), (28, _)]) (Sub.cons rfl (Sub.cons rfl (Sub.cons rfl (Sub.cons rfl (Sub.cons rfl (Sub.cons rfl (Sub.cons rfl (Sub.nil _)))))))) (MSub.refl _) ?_
    refine W_cond rfl (fun hc8 => ?_) (fun hc8 => ?_)
    · skip
      replace hp := cond_t hc8 hp
      refine W_skip ?_
      refine W_seq ?_
      refine W_block ?_
      refine W_seq ?_
      refine W_region ?_
      have ho := hp; clear hp; obtain ⟨u9, hy9, hp⟩ := idx_bind ho; clear ho
      refine L_idxA (X := y6x0) rfl rfl rfl el48 (RdT.tree (by first | (with_reducible repeat (first | exact List.Mem.head _ | apply List.Mem.tail)); done | (repeat (first | exact List.Mem.head _ | apply List.Mem.tail)))) hy9 ?_
      refine L_load0 rfl rfl (RdT.at (RdT.tree (by first | (with_reducible repeat (first | exact List.Mem.head _ | apply List.Mem.tail)); done | (repeat (first | exact List.Mem.head _ | apply List.Mem.tail)))) (hy9).2) one9 rfl ?_
      refine L_assign rfl rfl ?_
      refine L_nil ?_
      refine W_seq ?_
      refine W_region ?_
      refine L_loadW rfl rfl (RdC.blk (by first | (with_reducible repeat (first | exact List.Mem.head _ | apply List.Mem.tail)); done | (repeat (first | exact List.Mem.head _ | apply List.Mem.tail)))) (by exact agg28) ?_
      refine L_move rfl rfl ?_
      have ho := hp; clear hp; obtain ⟨y10, hy10, hp⟩ := bind_any ho; clear ho
      refine L_callR rfl fn109 rfl (by exact fun w hw => i_Ups_nodes_walk w (a1_1, a1_2) u9 (RdT.now (RdT.pair RdT.int (RdT.old h1.2)) hw) _ hy10) ?_
      rintro vy10 My10 ⟨y10x0, hvy10, hdy10, rfl, hby10x0⟩
      subst hvy10
      subst hdy10
      simp only [cells_pair, cells_int, cells_bool, cells_str, cells_TL, List.cons_append, List.nil_append]
      try dsimp only [dat_pair, dat_int, dat_bool, dat_str] at hp
      refine L_move rfl rfl ?_
      have ho := hp; clear hp; obtain ⟨y11, hy11, hp⟩ := bind_any ho; clear ho
      refine L_callR rfl fn158 rfl (by exact fun w hw => i_upOf_walk w y10x0 a2 (RdT.now (RdT.map hby10x0 (RdT.pair RdT.int (RdT.old h1.2))) hw) (RdT.now (RdT.old h2) hw) _ hy11) ?_
      rintro vy11 My11 ⟨y11x0, hvy11, hdy11, rfl⟩
      subst hvy11
      subst hdy11
      simp only [cells_pair, cells_int, cells_bool, cells_str, cells_TL, List.cons_append, List.nil_append]
      try dsimp only [dat_pair, dat_int, dat_bool, dat_str] at hp
      refine L_lenP (X := y11x0) rfl rfl el49 ?_
      refine L_binV rfl rfl rfl bv_eql ?_
      refine L_nil ?_
      refine W_weaken (l' := [(2, _), (4, _), (7, _), (9, _), (25, _), (26, _), (27, _), (37, _)]) (Sub.cons rfl (Sub.cons rfl (Sub.cons rfl (Sub.cons rfl (Sub.cons rfl (Sub.cons rfl (Sub.cons rfl (Sub.cons rfl (Sub.nil _))))))))) (MSub.refl _) ?_
      refine W_cond rfl (fun hc12 => ?_) (fun hc12 => ?_)
      · skip
        replace hp := cond_t hc12 hp
        refine W_region ?_
        refine L_move rfl rfl ?_
        refine L_move rfl rfl ?_
        refine L_buildSlice1 rfl rfl el48 rfl (by decide) (by decide) rfl (fun bb40 => ?_)
        have ho := hp; clear hp; obtain ⟨y14, hy14, hp⟩ := bind_any ho; clear ho
        refine L_app1F (X := v7_0) (u9 : ByteArray) rfl rfl rfl el48 rfl rfl (by first | (with_reducible repeat (first | exact Pick.here _ | apply Pick.there)); done | (repeat (first | exact Pick.here _ | apply Pick.there))) (by first | (with_reducible repeat (first | exact List.Mem.head _ | apply List.Mem.tail)); done | (repeat (first | exact List.Mem.head _ | apply List.Mem.tail)))  hy14 (by decide) (fun X13 hdX13 => ?_)
        subst hdX13
        refine L_assign rfl rfl ?_
        refine L_nil ?_
        refine W_region ?_
        refine L_binV rfl rfl rfl bv_add ?_
        refine L_move rfl rfl ?_
        refine L_nil ?_
        exact ⟨(X13, IntKind.wrap .i64 (v7_1 + 1)), (Sub.cons rfl (Sub.cons rfl (Sub.cons rfl (Sub.cons rfl (Sub.cons rfl (Sub.cons rfl (Sub.nil _))))))), (Arr.sub (MSub.cons (by first | (with_reducible repeat (first | exact Pick.here _ | apply Pick.there)); done | (repeat (first | exact Pick.here _ | apply Pick.there))) (MSub.cons (by first | (with_reducible repeat (first | exact Pick.here _ | apply Pick.there)); done | (repeat (first | exact Pick.here _ | apply Pick.there))) (MSub.cons (by first | (with_reducible repeat (first | exact Pick.here _ | apply Pick.there)); done | (repeat (first | exact Pick.here _ | apply Pick.there))) (MSub.nil _))))), some_eq hp⟩
      · skip
        replace hp := cond_f hc12 hp
        refine W_skip ?_
        refine W_region ?_
        refine L_binV rfl rfl rfl bv_add ?_
        refine L_move rfl rfl ?_
        refine L_nil ?_
        exact ⟨(v7_0, IntKind.wrap .i64 (v7_1 + 1)), (Sub.cons rfl (Sub.cons rfl (Sub.cons rfl (Sub.cons rfl (Sub.cons rfl (Sub.cons rfl (Sub.nil _))))))), (Arr.sub (MSub.cons (by first | (with_reducible repeat (first | exact Pick.here _ | apply Pick.there)); done | (repeat (first | exact Pick.here _ | apply Pick.there))) (MSub.cons (by first | (with_reducible repeat (first | exact Pick.here _ | apply Pick.there)); done | (repeat (first | exact Pick.here _ | apply Pick.there))) (MSub.cons (by first | (with_reducible repeat (first | exact Pick.here _ | apply Pick.there)); done | (repeat (first | exact Pick.here _ | apply Pick.there))) (MSub.nil _))))), some_eq hp⟩
    · skip
      replace hp := cond_f hc8 hp
      refine W_exit ?_
      have ho := hp; clear hp; obtain ⟨a15, hp, hx_a15⟩ := map_any ho; clear ho
      obtain rfl := hx7 _ hx_a15
      refine W_seq ?_
      refine W_region ?_
      refine L_move rfl rfl ?_
      refine L_assign rfl rfl ?_
      refine L_nil ?_
      obtain rfl := Option.some.inj hp
      refine W_ret ?_
      refine res1 rfl (ResOK.tmp rfl) ⟨v7_0, rfl, rfl, rfl⟩ (MSub.cons (by first | (with_reducible repeat (first | exact Pick.here _ | apply Pick.there)); done | (repeat (first | exact Pick.here _ | apply Pick.there))) (MSub.nil _))

end Go.Proofs.SL
