/- Walks of functions, each with the function on data that it follows. -/
import Derived.Test.YthebgoognabinaaLS
import Derived.Test.YthebgoognabinaaWB
import Derived.Test.YthebgoognabinaaFP
namespace Go.Proofs.SL
open Go
abbrev D_Copy := ByteArray × Int × Int
theorem fn190 : IsFn Try.prog 190 := ⟨_, Try.func190, by kernel_rfl, rfl⟩
theorem fn108 : IsFn Try.prog 108 := ⟨_, Try.func108, by kernel_rfl, rfl⟩
noncomputable def i_with (a0 : List Int) (a1 : Int) : Option (List Int) :=
  Option.bind (appP ([] : List Int) a0) (fun y2 => Option.bind (sl_Contains_intint y2 a1) (fun y3 => cond (!y3) (Option.bind (appP y2 [a1]) (fun y6 => Option.bind (sortIP y6) (fun y7 => some y7))) (Option.bind (sortIP y2) (fun y8 => some y8))))

theorem i_with_walk (w : World) (a0 : TL Int) (a1 : Int) (h0 : GT.rd w [] a0) (r : (List Int)) (hp : i_with (GT.dat a0) a1 = some r) : Spec Try.prog 108 [(TL.hdr a0), .int .i64 a1].toArray w [] (fun v M => ∃ (x0 : TL Int), v = (TL.hdr x0) ∧ GT.dat x0 = r ∧ M = [treeH x0]) := by
  refine Spec.intro Try.func108 rfl Try.ntmps108 rfl ?_
  unfold i_with at hp
  try dsimp only [dat_pair, dat_int, dat_bool, dat_str] at hp
  refine W_seq ?_
  refine W_region ?_
  refine L_assign (v := (TL.hdr (TL.nil Int 0))) rfl rfl ?_
  refine L_nil ?_
  refine W_seq ?_
  refine W_region ?_
  refine L_move rfl rfl ?_
  refine L_conv (M' := treeH (TL.nil Int 0) :: _) (fun w h => addNilT _ h) ?_
  have ho := hp; clear hp; obtain ⟨y2, hy2, hp⟩ := bind_any ho; clear ho
  refine L_appT (X := (TL.nil Int 0)) (Y := a0) rfl rfl rfl el49 rfl rfl (by first | (with_reducible repeat (first | exact Pick.here _ | apply Pick.there)); done | (repeat (first | exact Pick.here _ | apply Pick.there))) (RdT.old h0) hy2 (by decide) (fun X1 hdX1 => ?_)
  subst hdX1
  refine L_assign rfl rfl ?_
  refine L_nil ?_
  refine W_seq ?_
  refine W_seq ?_
  refine W_region ?_
  refine L_move rfl rfl ?_
  refine L_move rfl rfl ?_
  have ho := hp; clear hp; obtain ⟨y3, hy3, hp⟩ := bind_any ho; clear ho
  refine L_callX rfl fn100 rfl (by exact fun w hw => sl_Contains_intint_walk w X1 a1 (RdT.now (RdT.tree (by first | (with_reducible repeat (first | exact List.Mem.head _ | apply List.Mem.tail)); done | (repeat (first | exact List.Mem.head _ | apply List.Mem.tail)))) hw) _ hy3) ?_
  refine L_not rfl rfl ?_
  refine L_nil ?_
  refine W_weaken (l' := [(1, _), (5, _), (11, _)]) (Sub.cons rfl (Sub.cons rfl (Sub.cons rfl (Sub.nil _)))) (MSub.refl _) ?_
  refine W_cond rfl (fun hc4 => ?_) (fun hc4 => ?_)
  · skip
    replace hp := cond_t hc4 hp
    refine W_region ?_
    refine L_move rfl rfl ?_
    refine L_move rfl rfl ?_
    refine L_buildSlice1 rfl rfl el49 rfl (by decide) (by decide) rfl (fun bb14 => ?_)
    have ho := hp; clear hp; obtain ⟨y6, hy6, hp⟩ := bind_any ho; clear ho
    refine L_app1F (X := X1) (a1 : Int) rfl rfl rfl el49 rfl rfl (by first | (with_reducible repeat (first | exact Pick.here _ | apply Pick.there)); done | (repeat (first | exact Pick.here _ | apply Pick.there))) (by first | (with_reducible repeat (first | exact List.Mem.head _ | apply List.Mem.tail)); done | (repeat (first | exact List.Mem.head _ | apply List.Mem.tail)))  hy6 (by decide) (fun X5 hdX5 => ?_)
    subst hdX5
    refine L_assign rfl rfl ?_
    refine L_nil ?_
    refine W_seq ?_
    refine W_region ?_
    refine L_move rfl rfl ?_
    have ho := hp; clear hp; obtain ⟨y7, hy7, hp⟩ := bind_any ho; clear ho
    refine L_callM [treeH X5] _ rfl fn190 rfl (perm_cons (by first | (with_reducible repeat (first | exact Pick.here _ | apply Pick.there)); done | (repeat (first | exact Pick.here _ | apply Pick.there))) (perm_nil_left _)) (by exact fun w hw => sl_Sort_intint_walk w X5  _ hy7) ?_
    rintro vy7 My7 ⟨y7y0, hvy7, hdy7, rfl, hey7_0⟩
    subst hvy7
    subst hdy7
    try rw [← hey7_0]
    simp only [cells_pair, cells_int, cells_bool, cells_str, cells_TL, List.cons_append, List.nil_append]
    try dsimp only [dat_pair, dat_int, dat_bool, dat_str] at hp
    refine L_nil ?_
    refine W_seq ?_
    refine W_region ?_
    refine L_move rfl rfl ?_
    refine L_assign rfl rfl ?_
    refine L_nil ?_
    obtain rfl := Option.some.inj hp
    refine W_ret ?_
    refine res1 rfl (ResOK.tmp rfl) ⟨y7y0, rfl, rfl, rfl⟩ (MSub.cons (by first | (with_reducible repeat (first | exact Pick.here _ | apply Pick.there)); done | (repeat (first | exact Pick.here _ | apply Pick.there))) (MSub.nil _))
  · skip
    replace hp := cond_f hc4 hp
    refine W_skip ?_
    refine W_seq ?_
    refine W_region ?_
    refine L_move rfl rfl ?_
    have ho := hp; clear hp; obtain ⟨y8, hy8, hp⟩ := bind_any ho; clear ho
    refine L_callM [treeH X1] _ rfl fn190 rfl (perm_cons (by first | (with_reducible repeat (first | exact Pick.here _ | apply Pick.there)); done | (repeat (first | exact Pick.here _ | apply Pick.there))) (perm_nil_left _)) (by exact fun w hw => sl_Sort_intint_walk w X1  _ hy8) ?_
    rintro vy8 My8 ⟨y8y0, hvy8, hdy8, rfl, hey8_0⟩
    subst hvy8
    subst hdy8
    try rw [← hey8_0]
    simp only [cells_pair, cells_int, cells_bool, cells_str, cells_TL, List.cons_append, List.nil_append]
    try dsimp only [dat_pair, dat_int, dat_bool, dat_str] at hp
    refine L_nil ?_
    refine W_seq ?_
    refine W_region ?_
    refine L_move rfl rfl ?_
    refine L_assign rfl rfl ?_
    refine L_nil ?_
    obtain rfl := Option.some.inj hp
    refine W_ret ?_
    refine res1 rfl (ResOK.tmp rfl) ⟨y8y0, rfl, rfl, rfl⟩ (MSub.cons (by first | (with_reducible repeat (first | exact Pick.here _ | apply Pick.there)); done | (repeat (first | exact Pick.here _ | apply Pick.there))) (MSub.nil _))

noncomputable def s_RepairAll (a0 : D_Ups) (a1 : List D_Copy) : Option (D_Ups × Bool) :=
  Option.bind (s_UpsOk (a0.1, a0.2)) (fun y1 => cond (!y1) (some ((0, ([] : List D_Up)), false)) (Option.bind (s_l18Copy (a0.1, a0.2)) (fun y3 => whileP (fun s4 : Int × (List D_Up) => cond (decide (s4.1 < (a1.length : Int))) (Option.bind (idx a1 s4.1) (fun y6 => Option.bind (s_l18At (y3.1, s4.2) y6.1) (fun y7 => gb (!(decide (y7 < 0))) (idx s4.2 y7) (fun y8 => gb (!(decide (y7 < 0))) (idx a1 s4.1) (fun y9 => gb (!(decide (y7 < 0))) (s_l18Has y8.2.1 y9.2.1) (fun y10 => gb (!((decide (y7 < 0)) || (!y10))) (idx a1 s4.1) (fun y11 => gb (!((decide (y7 < 0)) || (!y10))) (s_l9Node y11.2.2) (fun y12 => cond (((decide (y7 < 0)) || (!y10)) || (!y12)) (Option.bind (s_l18Copy (a0.1, a0.2)) (fun y14 => Option.map .inr (some ((y14.1, y14.2), false)))) (Option.bind (idx s4.2 y7) (fun y16 => Option.bind (idx a1 s4.1) (fun y17 => Option.bind (s_l18With y16.2.1 y17.2.2 true) (fun y18 => Option.bind (idx s4.2 y7) (fun y19 => Option.bind (some (s4.2.set (y7.toNat) (y19.1, y18, y19.2.2))) (fun y20 => some (.inl ((IntKind.wrap .i64 (s4.1 + 1), y20))))))))))))))))) (Option.map .inr (some ((y3.1, s4.2), true)))) (0, y3.2))))

theorem s_RepairAll_walk (w : World) (a0 : T_Ups) (a1 : TL T_Copy) (h0 : GT.rd w [] a0) (h1 : GT.rd w [] a1) (r : D_Ups × Bool) (hp : s_RepairAll (GT.dat a0) (GT.dat a1) = some r) : Spec Try.prog 24 [.agg (GT.cells a0).toArray, (TL.hdr a1)].toArray w [] (fun v M => ∃ (x0 : T_Ups) (x1 : Bool), v = .tuple #[.agg (GT.cells x0).toArray, .bool x1] ∧ (GT.dat x0, GT.dat x1) = r ∧ M = [treeH x0]) := by
  obtain ⟨a0_1, a0_2⟩ := a0
  change Spec _ _ ([Value.agg #[.int .i64 a0_1, (TL.hdr a0_2)], (TL.hdr a1)] : List Value).toArray w [] _
  refine Spec.intro Try.func24 rfl Try.ntmps24 rfl ?_
  unfold s_RepairAll at hp
  try dsimp only [dat_pair, dat_int, dat_bool, dat_str] at hp
  refine W_seq ?_
  refine W_region ?_
  refine L_box rfl rfl (fun bk2 => ?_)
  refine L_alloc rfl zero28 (fun bk4 => ?_)
  refine L_assign rfl rfl ?_
  refine L_nil ?_
  refine W_seq ?_
  refine W_seq ?_
  refine W_region ?_
  refine L_loadW rfl rfl (RdC.blk (by first | (with_reducible repeat (first | exact List.Mem.head _ | apply List.Mem.tail)); done | (repeat (first | exact List.Mem.head _ | apply List.Mem.tail)))) (by exact agg28) ?_
  have ho := hp; clear hp; obtain ⟨y1, hy1, hp⟩ := bind_any ho; clear ho
  refine L_callX rfl fn85 rfl (by exact fun w hw => s_UpsOk_walk w (a0_1, a0_2) (RdT.now (RdT.pair RdT.int (RdT.old h0.2)) hw) _ hy1) ?_
  refine L_not rfl rfl ?_
  refine L_nil ?_
  refine W_weaken (l' := [(1, _), (2, _), (4, _), (11, _)]) (Sub.cons rfl (Sub.cons rfl (Sub.cons rfl (Sub.cons rfl (Sub.nil _))))) (MSub.refl _) ?_
  refine W_cond rfl (fun hc2 => ?_) (fun hc2 => ?_)
  · skip
    replace hp := cond_t hc2 hp
    refine W_seq ?_
    refine W_region ?_
    refine L_build (xs := []) (cs := [.int .i64 0, (TL.hdr (TL.nil T_Up 0))]) rfl rfl bld28 rfl ?_
    refine L_storeW rfl rfl (by first | (with_reducible repeat (first | exact Pick.here _ | apply Pick.there)); done | (repeat (first | exact Pick.here _ | apply Pick.there))) (by exact agg28) (by rfl) (by first | exact allOne rfl | exact fun v hv => GT.one _ v hv | (simp [Value.oneCell', TL.hdr, Value.cells]; done)) ?_
    refine L_assign rfl rfl ?_
    refine L_nil ?_
    obtain rfl := Option.some.inj hp
    refine W_conv (M' := treeH (TL.nil T_Up 0) :: _) (fun w h => addNilT (τ := T_Up) 0 h) ?_
    refine W_conv (M' := treeH ((0, (TL.nil T_Up 0)) : Int × TL T_Up) :: _) (fun w h => jnR (a := 0) (b := (TL.nil T_Up 0)) (by first | (with_reducible repeat (first | exact Pick.here _ | apply Pick.there)); done | (repeat (first | exact Pick.here _ | apply Pick.there))) h) ?_
    refine W_ret ?_
    refine res2 rfl (ResOK.cell rfl (by first | (with_reducible repeat (first | exact List.Mem.head _ | apply List.Mem.tail)); done | (repeat (first | exact List.Mem.head _ | apply List.Mem.tail))) (by exact agg28)) (ResOK.tmp rfl) ⟨(0, (TL.nil T_Up 0)), false, rfl, rfl, rfl⟩ (MSub.cons (by first | (with_reducible repeat (first | exact Pick.here _ | apply Pick.there)); done | (repeat (first | exact Pick.here _ | apply Pick.there))) (MSub.nil _))
  · skip
    replace hp := cond_f hc2 hp
    refine W_skip ?_
    refine W_seq ?_
    refine W_region ?_
    refine L_loadW rfl rfl (RdC.blk (by first | (with_reducible repeat (first | exact List.Mem.head _ | apply List.Mem.tail)); done | (repeat (first | exact List.Mem.head _ | apply List.Mem.tail)))) (by exact agg28) ?_
    have ho := hp; clear hp; obtain ⟨y3, hy3, hp⟩ := bind_any ho; clear ho
    refine L_callR rfl fn93 rfl (by exact fun w hw => s_l18Copy_walk w (a0_1, a0_2) (RdT.now (RdT.pair RdT.int (RdT.old h0.2)) hw) _ hy3) ?_
    rintro vy3 My3 ⟨y3x0, hvy3, hdy3, rfl⟩
    subst hvy3
    subst hdy3
    obtain ⟨y3x0_1, y3x0_2⟩ := y3x0
    simp only [cells_pair, cells_int, cells_bool, cells_str, cells_TL, List.cons_append, List.nil_append]
    try dsimp only [dat_pair, dat_int, dat_bool, dat_str] at hp
    refine L_conv (M' := treeH y3x0_2 :: _) (fun w h => exR (a := y3x0_1) (by first | (with_reducible repeat (first | exact Pick.here _ | apply Pick.there)); done | (repeat (first | exact Pick.here _ | apply Pick.there))) h) ?_
    refine L_alloc rfl zero28 (fun bk6 => ?_)
    refine L_storeW rfl rfl (by first | (with_reducible repeat (first | exact Pick.here _ | apply Pick.there)); done | (repeat (first | exact Pick.here _ | apply Pick.there))) (by exact agg28) (by rfl) (by first | exact allOne rfl | exact fun v hv => GT.one _ v hv | (simp [Value.oneCell', TL.hdr, Value.cells]; done)) ?_
    refine L_nil ?_
    refine W_seq ?_
    refine W_seq ?_
    refine W_region ?_
    refine L_assign rfl rfl ?_
    refine L_nil ?_
    refine W_block ?_
    refine W_while (σ := Int × (TL T_Up)) GT.dat (fun ((v4_0, v4_1) : Int × (TL T_Up)) => [(7, .int .i64 v4_0)]) (fun ((v4_0, v4_1) : Int × (TL T_Up)) => [blk bk6 [.int .i64 y3x0_1, (TL.hdr v4_1)] 28, treeH v4_1]) [(1, _), (2, _), (4, _), (6, _)] [blk bk2 _ _, blk bk4 _ _] (0, y3x0_2) hp (Sub.cons rfl (Sub.cons rfl (Sub.cons rfl (Sub.cons rfl (Sub.cons rfl (Sub.nil _)))))) (MSub.cons (by first | (with_reducible repeat (first | exact Pick.here _ | apply Pick.there)); done | (repeat (first | exact Pick.here _ | apply Pick.there))) (MSub.cons (by first | (with_reducible repeat (first | exact Pick.here _ | apply Pick.there)); done | (repeat (first | exact Pick.here _ | apply Pick.there))) (MSub.cons (by first | (with_reducible repeat (first | exact Pick.here _ | apply Pick.there)); done | (repeat (first | exact Pick.here _ | apply Pick.there))) (MSub.cons (by first | (with_reducible repeat (first | exact Pick.here _ | apply Pick.there)); done | (repeat (first | exact Pick.here _ | apply Pick.there))) (MSub.nil _))))) ?_
    clear hp
    rintro ⟨v4_0, v4_1⟩ x4 hp hx4
    try dsimp only [dat_pair, dat_int, dat_bool, dat_str] at hp
    refine W_weaken (l' := [(1, _), (2, _), (4, _), (6, _), (7, _)]) (Sub.cons rfl (Sub.cons rfl (Sub.cons rfl (Sub.cons rfl (Sub.cons rfl (Sub.nil _)))))) (M' := [_, _, _, _]) (MSub.cons (by first | (with_reducible repeat (first | exact Pick.here _ | apply Pick.there)); done | (repeat (first | exact Pick.here _ | apply Pick.there))) (MSub.cons (by first | (with_reducible repeat (first | exact Pick.here _ | apply Pick.there)); done | (repeat (first | exact Pick.here _ | apply Pick.there))) (MSub.cons (by first | (with_reducible repeat (first | exact Pick.here _ | apply Pick.there)); done | (repeat (first | exact Pick.here _ | apply Pick.there))) (MSub.cons (by first | (with_reducible repeat (first | exact Pick.here _ | apply Pick.there)); done | (repeat (first | exact Pick.here _ | apply Pick.there))) (MSub.nil _))))) ?_
    refine W_seq ?_
    refine W_seq ?_
    refine W_region ?_
    refine L_move rfl rfl ?_
    refine L_move rfl rfl ?_
    refine L_lenP (X := a1) rfl rfl el38 ?_
    refine L_binV rfl rfl rfl bv_lss ?_
    refine L_nil ?_
    refine W_weaken (l' := [(1, _), (2, _), (4, _), (6, _), (7, _), (18, _)]) (Sub.cons rfl (Sub.cons rfl (Sub.cons rfl (Sub.cons rfl (Sub.cons rfl (Sub.cons rfl (Sub.nil _))))))) (MSub.refl _) ?_
    refine W_cond rfl (fun hc5 => ?_) (fun hc5 => ?_)
    · skip
      replace hp := cond_t hc5 hp
      refine W_skip ?_
      refine W_seq ?_
      refine W_block ?_
      refine W_seq ?_
      have ho := hp; clear hp; obtain ⟨u6, hy6, hp⟩ := idx_bind ho; clear ho
      obtain ⟨u6_1, u6_2, u6_3⟩ := u6
      have ho := hp; clear hp; obtain ⟨y7, hy7, hp⟩ := bind_any ho; clear ho
      refine W_D0 [8] mix (by kernel_rfl) rfl ?_
      refine D_loadW GC.none (OpV.t rfl) (fun hg => RdC.blk (by first | (with_reducible repeat (first | exact List.Mem.head _ | apply List.Mem.tail)); done | (repeat (first | exact List.Mem.head _ | apply List.Mem.tail)))) (by exact agg28) ?_
      refine D_move GC.none (OpV.t rfl) ?_
      refine D_move GC.none (OpV.t rfl) ?_
      refine D_idxA (X := a1) GC.none (OpV.t rfl) (OpV.t rfl) el38 (RdT.old h1) (fun _ => hy6) ?_
      refine D_fieldAddr GC.none (OpV.t rfl) fld154_0 ?_
      refine D_load GC.none (OpV.t rfl) (fun hg => RdT.at (RdT.old h1) (hy6).2) one9 rfl ?_
      refine D_callX GC.none fn91 (OpVs.cons (OpV.t rfl) (OpVs.cons (OpV.t rfl) (OpVs.nil))) (by exact fun hg w F hF hM => s_l18At_walk w (y3x0_1, v4_1) u6_1 (RdT.nowS (RdT.pair RdT.int (RdT.tree (by first | (with_reducible repeat (first | exact List.Mem.head _ | apply List.Mem.tail)); done | (repeat (first | exact List.Mem.head _ | apply List.Mem.tail))))) hF hM) _ hy7) ?_
      refine D_assign GC.none (OpV.t rfl) ?_
      refine DV_nil ?_
      refine Give_is rfl rfl ?_
      refine Give_drop rfl ?_
      refine Give_drop rfl ?_
      refine Give_drop rfl ?_
      refine Give_drop rfl ?_
      refine Give_drop rfl ?_
      refine Give_drop rfl ?_
      refine Give_drop rfl ?_
      refine Give_nil ?_
      refine W_seq ?_
      refine W_seq ?_
      have ho := hp; clear hp; obtain ⟨u8, hy8, hp⟩ := idx_gb ho; clear ho
      obtain ⟨u8_1, u8_2, u8_3⟩ := u8
      have ho := hp; clear hp; obtain ⟨u9, hy9, hp⟩ := idx_gb ho; clear ho
      obtain ⟨u9_1, u9_2, u9_3⟩ := u9
      have ho := hp; clear hp; obtain ⟨y10, hy10, hp⟩ := gb_any ho; clear ho
      have ho := hp; clear hp; obtain ⟨u11, hy11, hp⟩ := idx_gb ho; clear ho
      obtain ⟨u11_1, u11_2, u11_3⟩ := u11
      have ho := hp; clear hp; obtain ⟨y12, hy12, hp⟩ := gb_any ho; clear ho
      refine W_D0 [53] mix (by kernel_rfl) rfl ?_
      refine D_move GC.none (OpV.t rfl) ?_
      refine D_bin GC.none (OpV.t rfl) OpV.c (fun hg => bv_lss) ?_
      refine D_move GC.none (OpV.t rfl) ?_
      refine D_fieldAddr (GC.some rfl rfl) (OpV.t rfl) fld28_1 ?_
      refine D_load (GC.some rfl rfl) (OpV.s rfl) (fun hg => RdC.blk (by first | (with_reducible repeat (first | exact List.Mem.head _ | apply List.Mem.tail)); done | (repeat (first | exact List.Mem.head _ | apply List.Mem.tail)))) one26 rfl ?_
      refine D_move (GC.some rfl rfl) (OpV.t rfl) ?_
      refine D_idxA (X := v4_1) (GC.some rfl rfl) (OpV.s rfl) (OpV.s rfl) el26 (RdT.tree (by first | (with_reducible repeat (first | exact List.Mem.head _ | apply List.Mem.tail)); done | (repeat (first | exact List.Mem.head _ | apply List.Mem.tail)))) (fun hg => hy8 (gnot hg.2)) ?_
      refine D_fieldAddr (GC.some rfl rfl) (OpV.s rfl) fld137_1 ?_
      refine D_load (GC.some rfl rfl) (OpV.s rfl) (fun hg => RdT.at (RdT.tree (by first | (with_reducible repeat (first | exact List.Mem.head _ | apply List.Mem.tail)); done | (repeat (first | exact List.Mem.head _ | apply List.Mem.tail)))) (hy8 (gnot hg.2)).2) one49 rfl ?_
      refine D_move (GC.some rfl rfl) (OpV.t rfl) ?_
      refine D_move (GC.some rfl rfl) (OpV.t rfl) ?_
      refine D_idxA (X := a1) (GC.some rfl rfl) (OpV.s rfl) (OpV.s rfl) el38 (RdT.old h1) (fun hg => hy9 (gnot hg.2)) ?_
      refine D_fieldAddr (GC.some rfl rfl) (OpV.s rfl) fld154_1 ?_
      refine D_load (GC.some rfl rfl) (OpV.s rfl) (fun hg => RdT.at (RdT.old h1) (hy9 (gnot hg.2)).2) one3 rfl ?_
      refine D_callX (GC.some rfl rfl) fn92 (OpVs.cons (OpV.s rfl) (OpVs.cons (OpV.s rfl) (OpVs.nil))) (by exact fun hg w F hF hM => s_l18Has_walk w u8_2 u9_2 (RdT.nowS (RdT.fst (RdT.snd (RdT.of (RdT.tree (by first | (with_reducible repeat (first | exact List.Mem.head _ | apply List.Mem.tail)); done | (repeat (first | exact List.Mem.head _ | apply List.Mem.tail)))) (hy8 (gnot hg.2)).2))) hF hM) _ (hy10 (gnot hg.2))) ?_
      refine D_not (GC.some rfl rfl) (OpV.s rfl) ?_
      refine D_or (cy := _) GC.none (OpV.t rfl) (OpV.s rfl) (fun h hb => ⟨h, hb⟩) ?_
      refine D_move GC.none (OpV.t rfl) ?_
      refine D_move (GC.some rfl rfl) (OpV.t rfl) ?_
      refine D_move (GC.some rfl rfl) (OpV.t rfl) ?_
      refine D_idxA (X := a1) (GC.some rfl rfl) (OpV.s rfl) (OpV.s rfl) el38 (RdT.old h1) (fun hg => hy11 (gnot hg.2)) ?_
      refine D_fieldAddr (GC.some rfl rfl) (OpV.s rfl) fld154_2 ?_
      refine D_load (GC.some rfl rfl) (OpV.s rfl) (fun hg => RdT.at (RdT.old h1) (hy11 (gnot hg.2)).2) one3 rfl ?_
      refine D_callX (GC.some rfl rfl) fn107 (OpVs.cons (OpV.s rfl) (OpVs.nil)) (by exact fun hg w F hF hM => s_l9Node_walk w u11_3  _ (hy12 (gnot hg.2))) ?_
      refine D_not (GC.some rfl rfl) (OpV.s rfl) ?_
      refine D_or (cy := _) GC.none (OpV.t rfl) (OpV.s rfl) (fun h hb => ⟨h, hb⟩) ?_
      refine DV_nil ?_
      refine Give_is rfl rfl ?_
      refine Give_drop rfl ?_
      refine Give_drop rfl ?_
      refine Give_drop rfl ?_
      refine Give_drop rfl ?_
      refine Give_drop rfl ?_
      refine Give_drop rfl ?_
      refine Give_drop rfl ?_
      refine Give_drop rfl ?_
      refine Give_drop rfl ?_
      refine Give_drop rfl ?_
      refine Give_drop rfl ?_
      refine Give_drop rfl ?_
      refine Give_drop rfl ?_
      refine Give_drop rfl ?_
      refine Give_drop rfl ?_
      refine Give_drop rfl ?_
      refine Give_drop rfl ?_
      refine Give_drop rfl ?_
      refine Give_drop rfl ?_
      refine Give_drop rfl ?_
      refine Give_drop rfl ?_
      refine Give_drop rfl ?_
      refine Give_drop rfl ?_
      refine Give_drop rfl ?_
      refine Give_drop rfl ?_
      refine Give_nil ?_
      refine W_weaken (l' := [(1, _), (2, _), (4, _), (6, _), (7, _), (8, _), (53, _)]) (Sub.cons rfl (Sub.cons rfl (Sub.cons rfl (Sub.cons rfl (Sub.cons rfl (Sub.cons rfl (Sub.cons rfl (Sub.nil _)))))))) (MSub.refl _) ?_
      refine W_cond rfl (fun hc13 => ?_) (fun hc13 => ?_)
      · skip
        replace hp := cond_t hc13 hp
        refine W_seq ?_
        refine W_region ?_
        refine L_loadW rfl rfl (RdC.blk (by first | (with_reducible repeat (first | exact List.Mem.head _ | apply List.Mem.tail)); done | (repeat (first | exact List.Mem.head _ | apply List.Mem.tail)))) (by exact agg28) ?_
        have ho := hp; clear hp; obtain ⟨y14, hy14, hp⟩ := bind_any ho; clear ho
        refine L_callR rfl fn93 rfl (by exact fun w hw => s_l18Copy_walk w (a0_1, a0_2) (RdT.now (RdT.pair RdT.int (RdT.old h0.2)) hw) _ hy14) ?_
        rintro vy14 My14 ⟨y14x0, hvy14, hdy14, rfl⟩
        subst hvy14
        subst hdy14
        obtain ⟨y14x0_1, y14x0_2⟩ := y14x0
        simp only [cells_pair, cells_int, cells_bool, cells_str, cells_TL, List.cons_append, List.nil_append]
        try dsimp only [dat_pair, dat_int, dat_bool, dat_str] at hp
        refine L_conv (M' := treeH y14x0_2 :: _) (fun w h => exR (a := y14x0_1) (by first | (with_reducible repeat (first | exact Pick.here _ | apply Pick.there)); done | (repeat (first | exact Pick.here _ | apply Pick.there))) h) ?_
        refine L_storeW rfl rfl (by first | (with_reducible repeat (first | exact Pick.here _ | apply Pick.there)); done | (repeat (first | exact Pick.here _ | apply Pick.there))) (by exact agg28) (by rfl) (by first | exact allOne rfl | exact fun v hv => GT.one _ v hv | (simp [Value.oneCell', TL.hdr, Value.cells]; done)) ?_
        refine L_assign rfl rfl ?_
        refine L_nil ?_
        have ho := hp; clear hp; obtain ⟨a15, hp, hx_a15⟩ := map_any ho; clear ho
        obtain rfl := hx4 _ hx_a15
        obtain rfl := Option.some.inj hp
        refine W_conv (M' := treeH ((y14x0_1, y14x0_2) : Int × TL T_Up) :: _) (fun w h => jnR (a := y14x0_1) (b := y14x0_2) (by first | (with_reducible repeat (first | exact Pick.here _ | apply Pick.there)); done | (repeat (first | exact Pick.here _ | apply Pick.there))) h) ?_
        refine W_ret ?_
        refine res2 rfl (ResOK.cell rfl (by first | (with_reducible repeat (first | exact List.Mem.head _ | apply List.Mem.tail)); done | (repeat (first | exact List.Mem.head _ | apply List.Mem.tail))) (by exact agg28)) (ResOK.tmp rfl) ⟨(y14x0_1, y14x0_2), false, rfl, rfl, rfl⟩ (MSub.cons (by first | (with_reducible repeat (first | exact Pick.here _ | apply Pick.there)); done | (repeat (first | exact Pick.here _ | apply Pick.there))) (MSub.nil _))
      · skip
        replace hp := cond_f hc13 hp
        refine W_skip ?_
        have ho := hp; clear hp; obtain ⟨u16, hy16, hp⟩ := idx_bind ho; clear ho
        obtain ⟨u16_1, u16_2, u16_3⟩ := u16
        have ho := hp; clear hp; obtain ⟨u17, hy17, hp⟩ := idx_bind ho; clear ho
        obtain rfl : (u6_1, u6_2, u6_3) = u17 := Option.some.inj (hy6.2.symm.trans hy17.2)
        have ho := hp; clear hp; obtain ⟨y18, hy18, hp⟩ := bind_any ho; clear ho
        refine W_DS (pre := [_, _, _, _, _, _, _, _, _, _, _, _, _, _, _]) (suf := [_, _, _]) [57, 58, 70] [] _ (perm_nil_left _) mix (by kernel_rfl) (by kernel_rfl) rfl ?_
        refine D_fieldAddr GC.none (OpV.t rfl) fld28_1 ?_
        refine D_load GC.none (OpV.t rfl) (fun hg => RdC.blk (by first | (with_reducible repeat (first | exact List.Mem.head _ | apply List.Mem.tail)); done | (repeat (first | exact List.Mem.head _ | apply List.Mem.tail)))) one26 rfl ?_
        refine D_move GC.none (OpV.t rfl) ?_
        refine D_fieldAddr GC.none (OpV.t rfl) fld28_1 ?_
        refine D_load GC.none (OpV.t rfl) (fun hg => RdC.blk (by first | (with_reducible repeat (first | exact List.Mem.head _ | apply List.Mem.tail)); done | (repeat (first | exact List.Mem.head _ | apply List.Mem.tail)))) one26 rfl ?_
        refine D_move GC.none (OpV.t rfl) ?_
        refine D_idxA (X := v4_1) GC.none (OpV.t rfl) (OpV.t rfl) el26 (RdT.tree (by first | (with_reducible repeat (first | exact List.Mem.head _ | apply List.Mem.tail)); done | (repeat (first | exact List.Mem.head _ | apply List.Mem.tail)))) (fun _ => hy16) ?_
        refine D_fieldAddr GC.none (OpV.t rfl) fld137_1 ?_
        refine D_load GC.none (OpV.t rfl) (fun hg => RdT.at (RdT.tree (by first | (with_reducible repeat (first | exact List.Mem.head _ | apply List.Mem.tail)); done | (repeat (first | exact List.Mem.head _ | apply List.Mem.tail)))) (hy16).2) one49 rfl ?_
        refine D_move GC.none (OpV.t rfl) ?_
        refine D_move GC.none (OpV.t rfl) ?_
        refine D_idxA (X := a1) GC.none (OpV.t rfl) (OpV.t rfl) el38 (RdT.old h1) (fun _ => hy6) ?_
        refine D_fieldAddr GC.none (OpV.t rfl) fld154_2 ?_
        refine D_load GC.none (OpV.t rfl) (fun hg => RdT.at (RdT.old h1) (hy6).2) one3 rfl ?_
        refine D_call1R (fun v M => ∃ (x0 : TL Int), v = (TL.hdr x0) ∧ GT.dat x0 = y18 ∧ M = [treeH x0]) fn94 (OpVs.cons (OpV.t rfl) (OpVs.cons (OpV.t rfl) (OpVs.cons OpV.c (OpVs.nil)))) (by exact fun w F hF hM => s_l18With_walk w u16_2 u6_3 true (RdT.nowS (RdT.fst (RdT.snd (RdT.of (RdT.tree (by first | (with_reducible repeat (first | exact List.Mem.head _ | apply List.Mem.tail)); done | (repeat (first | exact List.Mem.head _ | apply List.Mem.tail)))) (hy16).2))) hF hM) _ hy18) ?_
        refine DV_nil ?_
        refine Give_R rfl rfl ?_
        rintro vy18 My18 ⟨y18x0, hvy18, hdy18, rfl⟩
        subst hvy18
        subst hdy18
        refine Give_drop rfl ?_
        refine Give_drop rfl ?_
        refine Give_drop rfl ?_
        refine Give_drop rfl ?_
        refine Give_drop rfl ?_
        refine Give_drop rfl ?_
        refine Give_drop rfl ?_
        refine Give_drop rfl ?_
        refine Give_drop rfl ?_
        refine Give_drop rfl ?_
        refine Give_drop rfl ?_
        refine Give_is rfl rfl ?_
        refine Give_is rfl rfl ?_
        refine Give_drop rfl ?_
        refine Give_nil ?_
        simp only [cells_pair, cells_int, cells_bool, cells_str, cells_TL, List.cons_append, List.nil_append]
        try dsimp only [dat_pair, dat_int, dat_bool, dat_str] at hp
        have ho := hp; clear hp; obtain ⟨u19, hy19, hp⟩ := idx_bind ho; clear ho
        obtain rfl : (u16_1, u16_2, u16_3) = u19 := Option.some.inj (hy16.2.symm.trans hy19.2)
        refine L_idxA (X := v4_1) rfl rfl rfl el26 (RdT.tree (by first | (with_reducible repeat (first | exact List.Mem.head _ | apply List.Mem.tail)); done | (repeat (first | exact List.Mem.head _ | apply List.Mem.tail)))) hy16 ?_
        refine L_fieldAddr rfl rfl fld137_1 ?_
        refine L_conv (M' := treeH (u16_1, u16_2, u16_3) :: holeH v4_1 (y7.toNat) (GT.cells (u16_1, u16_2, u16_3)) :: _) (fun w h => hole_open hy16.2 (by first | (with_reducible repeat (first | exact Pick.here _ | apply Pick.there)); done | (repeat (first | exact Pick.here _ | apply Pick.there))) h) ?_
        refine L_conv (M' := treeH (u16_2, u16_3) :: _) (fun w h => exR (a := u16_1) (by first | (with_reducible repeat (first | exact Pick.here _ | apply Pick.there)); done | (repeat (first | exact Pick.here _ | apply Pick.there))) h) ?_
        refine L_conv (M' := treeH u16_2 :: _) (fun w h => exL (b := u16_3) (by first | (with_reducible repeat (first | exact Pick.here _ | apply Pick.there)); done | (repeat (first | exact Pick.here _ | apply Pick.there))) h) ?_
        refine L_stH (X := v4_1) (i := y7.toNat) (sz := 3) (fo := 1) (n := 1) rfl rfl (by first | (with_reducible repeat (first | exact Pick.here _ | apply Pick.there)); done | (repeat (first | exact Pick.here _ | apply Pick.there))) rfl (.inr ⟨one49, rfl⟩) rfl (allOne rfl) (Nat.le_of_ble_eq_true rfl) ?_
        refine L_conv (M' := treeH ((y18x0, u16_3) : (TL Int) × Int) :: _) (fun w h => jnL (a := y18x0) (b := u16_3) (by first | (with_reducible repeat (first | exact Pick.here _ | apply Pick.there)); done | (repeat (first | exact Pick.here _ | apply Pick.there))) h) ?_
        refine L_conv (M' := treeH ((u16_1, (y18x0, u16_3)) : ByteArray × (TL Int) × Int) :: _) (fun w h => jnR (a := u16_1) (b := (y18x0, u16_3)) (by first | (with_reducible repeat (first | exact Pick.here _ | apply Pick.there)); done | (repeat (first | exact Pick.here _ | apply Pick.there))) h) ?_
        have ho := hp; clear hp; obtain ⟨y20, hy20, hp⟩ := bind_any ho; clear ho
        refine L_close (X := v4_1) ((u16_1, y18x0, u16_3) : T_Up) rfl (by first | (with_reducible repeat (first | exact Pick.here _ | apply Pick.there)); done | (repeat (first | exact Pick.here _ | apply Pick.there))) (by first | (with_reducible repeat (first | exact Pick.here _ | apply Pick.there)); done | (repeat (first | exact Pick.here _ | apply Pick.there))) hy20 (fun X21 hdX21 hhX21 => ?_)
        subst hdX21
        try rw [← hhX21]
        refine L_nil ?_
        refine W_region ?_
        refine L_move rfl rfl ?_
        refine L_binV rfl rfl rfl bv_add ?_
        refine L_assign rfl rfl ?_
        refine L_nil ?_
        exact ⟨(IntKind.wrap .i64 (v4_0 + 1), X21), (Sub.cons rfl (Sub.cons rfl (Sub.cons rfl (Sub.cons rfl (Sub.cons rfl (Sub.nil _)))))), (Arr.sub (MSub.cons (by first | (with_reducible repeat (first | exact Pick.here _ | apply Pick.there)); done | (repeat (first | exact Pick.here _ | apply Pick.there))) (MSub.cons (by first | (with_reducible repeat (first | exact Pick.here _ | apply Pick.there)); done | (repeat (first | exact Pick.here _ | apply Pick.there))) (MSub.cons (by first | (with_reducible repeat (first | exact Pick.here _ | apply Pick.there)); done | (repeat (first | exact Pick.here _ | apply Pick.there))) (MSub.cons (by first | (with_reducible repeat (first | exact Pick.here _ | apply Pick.there)); done | (repeat (first | exact Pick.here _ | apply Pick.there))) (MSub.nil _)))))), some_eq hp⟩
    · skip
      replace hp := cond_f hc5 hp
      refine W_exit ?_
      have ho := hp; clear hp; obtain ⟨a22, hp, hx_a22⟩ := map_any ho; clear ho
      obtain rfl := hx4 _ hx_a22
      refine W_seq ?_
      refine W_region ?_
      refine L_loadW rfl rfl (RdC.blk (by first | (with_reducible repeat (first | exact List.Mem.head _ | apply List.Mem.tail)); done | (repeat (first | exact List.Mem.head _ | apply List.Mem.tail)))) (by exact agg28) ?_
      refine L_storeW rfl rfl (by first | (with_reducible repeat (first | exact Pick.here _ | apply Pick.there)); done | (repeat (first | exact Pick.here _ | apply Pick.there))) (by exact agg28) (by rfl) (by first | exact allOne rfl | exact fun v hv => GT.one _ v hv | (simp [Value.oneCell', TL.hdr, Value.cells]; done)) ?_
      refine L_assign rfl rfl ?_
      refine L_nil ?_
      obtain rfl := Option.some.inj hp
      refine W_conv (M' := treeH ((y3x0_1, v4_1) : Int × TL T_Up) :: _) (fun w h => jnR (a := y3x0_1) (b := v4_1) (by first | (with_reducible repeat (first | exact Pick.here _ | apply Pick.there)); done | (repeat (first | exact Pick.here _ | apply Pick.there))) h) ?_
      refine W_ret ?_
      refine res2 rfl (ResOK.cell rfl (by first | (with_reducible repeat (first | exact List.Mem.head _ | apply List.Mem.tail)); done | (repeat (first | exact List.Mem.head _ | apply List.Mem.tail))) (by exact agg28)) (ResOK.tmp rfl) ⟨(y3x0_1, v4_1), true, rfl, rfl, rfl⟩ (MSub.cons (by first | (with_reducible repeat (first | exact Pick.here _ | apply Pick.there)); done | (repeat (first | exact Pick.here _ | apply Pick.there))) (MSub.nil _))

noncomputable def i_RepairAll (a0 : D_Ups) (a1 : List D_Copy) : Option (D_Ups × Bool) :=
  Option.bind (i_UpsOk (a0.1, a0.2)) (fun y1 => cond (!y1) (some ((0, ([] : List D_Up)), false)) (Option.bind (i_copyUps (a0.1, a0.2)) (fun y3 => whileP (fun s4 : Int × (List D_Up) => cond (decide (s4.1 < (a1.length : Int))) (Option.bind (idx a1 s4.1) (fun y6 => Option.bind (i_Ups_at (y3.1, s4.2) y6.1) (fun y7 => gb (!(decide (y7 < 0))) (idx s4.2 y7) (fun y8 => gb (!(decide (y7 < 0))) (sl_Contains_intint y8.2.1 y6.2.1) (fun y9 => gb (!((decide (y7 < 0)) || (!y9))) (i_isRep y6.2.2) (fun y10 => cond (((decide (y7 < 0)) || (!y9)) || (!y10)) (Option.bind (i_copyUps (a0.1, a0.2)) (fun y12 => Option.map .inr (some ((y12.1, y12.2), false)))) (Option.bind (idx s4.2 y7) (fun y14 => Option.bind (i_with y14.2.1 y6.2.2) (fun y15 => Option.bind (idx s4.2 y7) (fun y16 => Option.bind (some (s4.2.set (y7.toNat) (y16.1, y15, y16.2.2))) (fun y17 => some (.inl ((IntKind.wrap .i64 (s4.1 + 1), y17)))))))))))))) (Option.map .inr (some ((y3.1, s4.2), true)))) (0, y3.2))))

theorem i_RepairAll_walk (w : World) (a0 : T_Ups) (a1 : TL T_Copy) (h0 : GT.rd w [] a0) (h1 : GT.rd w [] a1) (r : D_Ups × Bool) (hp : i_RepairAll (GT.dat a0) (GT.dat a1) = some r) : Spec Try.prog 26 [.agg (GT.cells a0).toArray, (TL.hdr a1)].toArray w [] (fun v M => ∃ (x0 : T_Ups) (x1 : Bool), v = .tuple #[.agg (GT.cells x0).toArray, .bool x1] ∧ (GT.dat x0, GT.dat x1) = r ∧ M = [treeH x0]) := by
  obtain ⟨a0_1, a0_2⟩ := a0
  change Spec _ _ ([Value.agg #[.int .i64 a0_1, (TL.hdr a0_2)], (TL.hdr a1)] : List Value).toArray w [] _
  refine Spec.intro Try.func26 rfl Try.ntmps26 rfl ?_
  unfold i_RepairAll at hp
  try dsimp only [dat_pair, dat_int, dat_bool, dat_str] at hp
  refine W_seq ?_
  refine W_region ?_
  refine L_box rfl rfl (fun bk2 => ?_)
  refine L_alloc rfl zero28 (fun bk4 => ?_)
  refine L_assign rfl rfl ?_
  refine L_nil ?_
  refine W_seq ?_
  refine W_seq ?_
  refine W_region ?_
  refine L_loadW rfl rfl (RdC.blk (by first | (with_reducible repeat (first | exact List.Mem.head _ | apply List.Mem.tail)); done | (repeat (first | exact List.Mem.head _ | apply List.Mem.tail)))) (by exact agg28) ?_
  have ho := hp; clear hp; obtain ⟨y1, hy1, hp⟩ := bind_any ho; clear ho
  refine L_callX rfl fn97 rfl (by exact fun w hw => i_UpsOk_walk w (a0_1, a0_2) (RdT.now (RdT.pair RdT.int (RdT.old h0.2)) hw) _ hy1) ?_
  refine L_not rfl rfl ?_
  refine L_nil ?_
  refine W_weaken (l' := [(1, _), (2, _), (4, _), (12, _)]) (Sub.cons rfl (Sub.cons rfl (Sub.cons rfl (Sub.cons rfl (Sub.nil _))))) (MSub.refl _) ?_
  refine W_cond rfl (fun hc2 => ?_) (fun hc2 => ?_)
  · skip
    replace hp := cond_t hc2 hp
    refine W_seq ?_
    refine W_region ?_
    refine L_build (xs := []) (cs := [.int .i64 0, (TL.hdr (TL.nil T_Up 0))]) rfl rfl bld28 rfl ?_
    refine L_storeW rfl rfl (by first | (with_reducible repeat (first | exact Pick.here _ | apply Pick.there)); done | (repeat (first | exact Pick.here _ | apply Pick.there))) (by exact agg28) (by rfl) (by first | exact allOne rfl | exact fun v hv => GT.one _ v hv | (simp [Value.oneCell', TL.hdr, Value.cells]; done)) ?_
    refine L_assign rfl rfl ?_
    refine L_nil ?_
    obtain rfl := Option.some.inj hp
    refine W_conv (M' := treeH (TL.nil T_Up 0) :: _) (fun w h => addNilT (τ := T_Up) 0 h) ?_
    refine W_conv (M' := treeH ((0, (TL.nil T_Up 0)) : Int × TL T_Up) :: _) (fun w h => jnR (a := 0) (b := (TL.nil T_Up 0)) (by first | (with_reducible repeat (first | exact Pick.here _ | apply Pick.there)); done | (repeat (first | exact Pick.here _ | apply Pick.there))) h) ?_
    refine W_ret ?_
    refine res2 rfl (ResOK.cell rfl (by first | (with_reducible repeat (first | exact List.Mem.head _ | apply List.Mem.tail)); done | (repeat (first | exact List.Mem.head _ | apply List.Mem.tail))) (by exact agg28)) (ResOK.tmp rfl) ⟨(0, (TL.nil T_Up 0)), false, rfl, rfl, rfl⟩ (MSub.cons (by first | (with_reducible repeat (first | exact Pick.here _ | apply Pick.there)); done | (repeat (first | exact Pick.here _ | apply Pick.there))) (MSub.nil _))
  · skip
    replace hp := cond_f hc2 hp
    refine W_skip ?_
    refine W_seq ?_
    refine W_region ?_
    refine L_loadW rfl rfl (RdC.blk (by first | (with_reducible repeat (first | exact List.Mem.head _ | apply List.Mem.tail)); done | (repeat (first | exact List.Mem.head _ | apply List.Mem.tail)))) (by exact agg28) ?_
    have ho := hp; clear hp; obtain ⟨y3, hy3, hp⟩ := bind_any ho; clear ho
    refine L_callR rfl fn98 rfl (by exact fun w hw => i_copyUps_walk w (a0_1, a0_2) (RdT.now (RdT.pair RdT.int (RdT.old h0.2)) hw) _ hy3) ?_
    rintro vy3 My3 ⟨y3x0, hvy3, hdy3, rfl⟩
    subst hvy3
    subst hdy3
    obtain ⟨y3x0_1, y3x0_2⟩ := y3x0
    simp only [cells_pair, cells_int, cells_bool, cells_str, cells_TL, List.cons_append, List.nil_append]
    try dsimp only [dat_pair, dat_int, dat_bool, dat_str] at hp
    refine L_conv (M' := treeH y3x0_2 :: _) (fun w h => exR (a := y3x0_1) (by first | (with_reducible repeat (first | exact Pick.here _ | apply Pick.there)); done | (repeat (first | exact Pick.here _ | apply Pick.there))) h) ?_
    refine L_alloc rfl zero28 (fun bk6 => ?_)
    refine L_storeW rfl rfl (by first | (with_reducible repeat (first | exact Pick.here _ | apply Pick.there)); done | (repeat (first | exact Pick.here _ | apply Pick.there))) (by exact agg28) (by rfl) (by first | exact allOne rfl | exact fun v hv => GT.one _ v hv | (simp [Value.oneCell', TL.hdr, Value.cells]; done)) ?_
    refine L_nil ?_
    refine W_seq ?_
    refine W_seq ?_
    refine W_region ?_
    refine L_move rfl rfl ?_
    refine L_lenP (X := a1) rfl rfl el38 ?_
    refine L_move rfl rfl ?_
    refine L_nil ?_
    refine W_block ?_
    refine W_while (σ := Int × (TL T_Up)) GT.dat (fun ((v4_0, v4_1) : Int × (TL T_Up)) => [(18, .int .i64 v4_0)]) (fun ((v4_0, v4_1) : Int × (TL T_Up)) => [blk bk6 [.int .i64 y3x0_1, (TL.hdr v4_1)] 28, treeH v4_1]) [(2, _), (4, _), (6, _), (16, _), (17, _)] [blk bk2 _ _, blk bk4 _ _] (0, y3x0_2) hp (Sub.cons rfl (Sub.cons rfl (Sub.cons rfl (Sub.cons rfl (Sub.cons rfl (Sub.cons rfl (Sub.nil _))))))) (MSub.cons (by first | (with_reducible repeat (first | exact Pick.here _ | apply Pick.there)); done | (repeat (first | exact Pick.here _ | apply Pick.there))) (MSub.cons (by first | (with_reducible repeat (first | exact Pick.here _ | apply Pick.there)); done | (repeat (first | exact Pick.here _ | apply Pick.there))) (MSub.cons (by first | (with_reducible repeat (first | exact Pick.here _ | apply Pick.there)); done | (repeat (first | exact Pick.here _ | apply Pick.there))) (MSub.cons (by first | (with_reducible repeat (first | exact Pick.here _ | apply Pick.there)); done | (repeat (first | exact Pick.here _ | apply Pick.there))) (MSub.nil _))))) ?_
    clear hp
    rintro ⟨v4_0, v4_1⟩ x4 hp hx4
    try dsimp only [dat_pair, dat_int, dat_bool, dat_str] at hp
    refine W_weaken (l' := [(2, _), (4, _), (6, _), (16, _), (17, _), (18, _)]) (Sub.cons rfl (Sub.cons rfl (Sub.cons rfl (Sub.cons rfl (Sub.cons rfl (Sub.cons rfl (Sub.nil _))))))) (M' := [_, _, _, _]) (MSub.cons (by first | (with_reducible repeat (first | exact Pick.here _ | apply Pick.there)); done | (repeat (first | exact Pick.here _ | apply Pick.there))) (MSub.cons (by first | (with_reducible repeat (first | exact Pick.here _ | apply Pick.there)); done | (repeat (first | exact Pick.here _ | apply Pick.there))) (MSub.cons (by first | (with_reducible repeat (first | exact Pick.here _ | apply Pick.there)); done | (repeat (first | exact Pick.here _ | apply Pick.there))) (MSub.cons (by first | (with_reducible repeat (first | exact Pick.here _ | apply Pick.there)); done | (repeat (first | exact Pick.here _ | apply Pick.there))) (MSub.nil _))))) ?_
    refine W_seq ?_
    refine W_region ?_
    refine L_binV rfl rfl rfl bv_lss ?_
    refine L_nil ?_
    refine W_seq ?_
    refine W_weaken (l' := [(2, _), (4, _), (6, _), (16, _), (17, _), (18, _), (19, _)]) (Sub.cons rfl (Sub.cons rfl (Sub.cons rfl (Sub.cons rfl (Sub.cons rfl (Sub.cons rfl (Sub.cons rfl (Sub.nil _)))))))) (MSub.refl _) ?_
    refine W_cond rfl (fun hc5 => ?_) (fun hc5 => ?_)
    · skip
      replace hp := cond_t hc5 hp
      refine W_skip ?_
      refine W_seq ?_
      refine W_block ?_
      refine W_seq ?_
      refine W_region ?_
      have ho := hp; clear hp; obtain ⟨u6, hy6, hp⟩ := idx_bind ho; clear ho
      obtain ⟨u6_1, u6_2, u6_3⟩ := u6
      refine L_idxA (X := a1) rfl rfl rfl el38 (RdT.old h1) hy6 ?_
      refine L_loadW rfl rfl (RdT.at (RdT.old h1) (hy6).2) (by exact agg154) ?_
      refine L_alloc rfl zero154 (fun bk8 => ?_)
      refine L_storeW rfl rfl (by first | (with_reducible repeat (first | exact Pick.here _ | apply Pick.there)); done | (repeat (first | exact Pick.here _ | apply Pick.there))) (by exact agg154) (by rfl) (by first | exact allOne rfl | exact fun v hv => GT.one _ v hv | (simp [Value.oneCell', TL.hdr, Value.cells]; done)) ?_
      refine L_nil ?_
      refine W_seq ?_
      refine W_region ?_
      refine L_loadW rfl rfl (RdC.blk (by first | (with_reducible repeat (first | exact List.Mem.head _ | apply List.Mem.tail)); done | (repeat (first | exact List.Mem.head _ | apply List.Mem.tail)))) (by exact agg28) ?_
      refine L_fieldAddr rfl rfl fld154_0 ?_
      refine L_load rfl rfl (RdC.blk (by first | (with_reducible repeat (first | exact List.Mem.head _ | apply List.Mem.tail)); done | (repeat (first | exact List.Mem.head _ | apply List.Mem.tail)))) one9 rfl ?_
      have ho := hp; clear hp; obtain ⟨y7, hy7, hp⟩ := bind_any ho; clear ho
      refine L_callX rfl fn99 rfl (by exact fun w hw => i_Ups_at_walk w (y3x0_1, v4_1) u6_1 (RdT.now (RdT.pair RdT.int (RdT.tree (by first | (with_reducible repeat (first | exact List.Mem.head _ | apply List.Mem.tail)); done | (repeat (first | exact List.Mem.head _ | apply List.Mem.tail))))) hw) _ hy7) ?_
      refine L_assign rfl rfl ?_
      refine L_nil ?_
      refine W_seq ?_
      refine W_seq ?_
      have ho := hp; clear hp; obtain ⟨u8, hy8, hp⟩ := idx_gb ho; clear ho
      obtain ⟨u8_1, u8_2, u8_3⟩ := u8
      have ho := hp; clear hp; obtain ⟨y9, hy9, hp⟩ := gb_any ho; clear ho
      have ho := hp; clear hp; obtain ⟨y10, hy10, hp⟩ := gb_any ho; clear ho
      refine W_D0 [45] mix (by kernel_rfl) rfl ?_
      refine D_move GC.none (OpV.t rfl) ?_
      refine D_bin GC.none (OpV.t rfl) OpV.c (fun hg => bv_lss) ?_
      refine D_move GC.none (OpV.t rfl) ?_
      refine D_fieldAddr (GC.some rfl rfl) (OpV.t rfl) fld28_1 ?_
      refine D_load (GC.some rfl rfl) (OpV.s rfl) (fun hg => RdC.blk (by first | (with_reducible repeat (first | exact List.Mem.head _ | apply List.Mem.tail)); done | (repeat (first | exact List.Mem.head _ | apply List.Mem.tail)))) one26 rfl ?_
      refine D_move (GC.some rfl rfl) (OpV.t rfl) ?_
      refine D_idxA (X := v4_1) (GC.some rfl rfl) (OpV.s rfl) (OpV.s rfl) el26 (RdT.tree (by first | (with_reducible repeat (first | exact List.Mem.head _ | apply List.Mem.tail)); done | (repeat (first | exact List.Mem.head _ | apply List.Mem.tail)))) (fun hg => hy8 (gnot hg.2)) ?_
      refine D_fieldAddr (GC.some rfl rfl) (OpV.s rfl) fld137_1 ?_
      refine D_load (GC.some rfl rfl) (OpV.s rfl) (fun hg => RdT.at (RdT.tree (by first | (with_reducible repeat (first | exact List.Mem.head _ | apply List.Mem.tail)); done | (repeat (first | exact List.Mem.head _ | apply List.Mem.tail)))) (hy8 (gnot hg.2)).2) one49 rfl ?_
      refine D_fieldAddr (GC.some rfl rfl) (OpV.t rfl) fld154_1 ?_
      refine D_load (GC.some rfl rfl) (OpV.s rfl) (fun hg => RdC.blk (by first | (with_reducible repeat (first | exact List.Mem.head _ | apply List.Mem.tail)); done | (repeat (first | exact List.Mem.head _ | apply List.Mem.tail)))) one3 rfl ?_
      refine D_callX (GC.some rfl rfl) fn100 (OpVs.cons (OpV.s rfl) (OpVs.cons (OpV.s rfl) (OpVs.nil))) (by exact fun hg w F hF hM => sl_Contains_intint_walk w u8_2 u6_2 (RdT.nowS (RdT.fst (RdT.snd (RdT.of (RdT.tree (by first | (with_reducible repeat (first | exact List.Mem.head _ | apply List.Mem.tail)); done | (repeat (first | exact List.Mem.head _ | apply List.Mem.tail)))) (hy8 (gnot hg.2)).2))) hF hM) _ (hy9 (gnot hg.2))) ?_
      refine D_not (GC.some rfl rfl) (OpV.s rfl) ?_
      refine D_or (cy := _) GC.none (OpV.t rfl) (OpV.s rfl) (fun h hb => ⟨h, hb⟩) ?_
      refine D_move GC.none (OpV.t rfl) ?_
      refine D_fieldAddr (GC.some rfl rfl) (OpV.t rfl) fld154_2 ?_
      refine D_load (GC.some rfl rfl) (OpV.s rfl) (fun hg => RdC.blk (by first | (with_reducible repeat (first | exact List.Mem.head _ | apply List.Mem.tail)); done | (repeat (first | exact List.Mem.head _ | apply List.Mem.tail)))) one3 rfl ?_
      refine D_callX (GC.some rfl rfl) fn113 (OpVs.cons (OpV.s rfl) (OpVs.nil)) (by exact fun hg w F hF hM => i_isRep_walk w u6_3  _ (hy10 (gnot hg.2))) ?_
      refine D_not (GC.some rfl rfl) (OpV.s rfl) ?_
      refine D_or (cy := _) GC.none (OpV.t rfl) (OpV.s rfl) (fun h hb => ⟨h, hb⟩) ?_
      refine DV_nil ?_
      refine Give_is rfl rfl ?_
      refine Give_drop rfl ?_
      refine Give_drop rfl ?_
      refine Give_drop rfl ?_
      refine Give_drop rfl ?_
      refine Give_drop rfl ?_
      refine Give_drop rfl ?_
      refine Give_drop rfl ?_
      refine Give_drop rfl ?_
      refine Give_drop rfl ?_
      refine Give_drop rfl ?_
      refine Give_drop rfl ?_
      refine Give_drop rfl ?_
      refine Give_drop rfl ?_
      refine Give_drop rfl ?_
      refine Give_drop rfl ?_
      refine Give_drop rfl ?_
      refine Give_drop rfl ?_
      refine Give_drop rfl ?_
      refine Give_drop rfl ?_
      refine Give_nil ?_
      refine W_weaken (l' := [(2, _), (4, _), (6, _), (8, _), (9, _), (16, _), (17, _), (18, _), (45, _)]) (Sub.cons rfl (Sub.cons rfl (Sub.cons rfl (Sub.cons rfl (Sub.cons rfl (Sub.cons rfl (Sub.cons rfl (Sub.cons rfl (Sub.cons rfl (Sub.nil _)))))))))) (MSub.refl _) ?_
      refine W_cond rfl (fun hc11 => ?_) (fun hc11 => ?_)
      · skip
        replace hp := cond_t hc11 hp
        refine W_seq ?_
        refine W_region ?_
        refine L_loadW rfl rfl (RdC.blk (by first | (with_reducible repeat (first | exact List.Mem.head _ | apply List.Mem.tail)); done | (repeat (first | exact List.Mem.head _ | apply List.Mem.tail)))) (by exact agg28) ?_
        have ho := hp; clear hp; obtain ⟨y12, hy12, hp⟩ := bind_any ho; clear ho
        refine L_callR rfl fn98 rfl (by exact fun w hw => i_copyUps_walk w (a0_1, a0_2) (RdT.now (RdT.pair RdT.int (RdT.old h0.2)) hw) _ hy12) ?_
        rintro vy12 My12 ⟨y12x0, hvy12, hdy12, rfl⟩
        subst hvy12
        subst hdy12
        obtain ⟨y12x0_1, y12x0_2⟩ := y12x0
        simp only [cells_pair, cells_int, cells_bool, cells_str, cells_TL, List.cons_append, List.nil_append]
        try dsimp only [dat_pair, dat_int, dat_bool, dat_str] at hp
        refine L_conv (M' := treeH y12x0_2 :: _) (fun w h => exR (a := y12x0_1) (by first | (with_reducible repeat (first | exact Pick.here _ | apply Pick.there)); done | (repeat (first | exact Pick.here _ | apply Pick.there))) h) ?_
        refine L_storeW rfl rfl (by first | (with_reducible repeat (first | exact Pick.here _ | apply Pick.there)); done | (repeat (first | exact Pick.here _ | apply Pick.there))) (by exact agg28) (by rfl) (by first | exact allOne rfl | exact fun v hv => GT.one _ v hv | (simp [Value.oneCell', TL.hdr, Value.cells]; done)) ?_
        refine L_assign rfl rfl ?_
        refine L_nil ?_
        have ho := hp; clear hp; obtain ⟨a13, hp, hx_a13⟩ := map_any ho; clear ho
        obtain rfl := hx4 _ hx_a13
        obtain rfl := Option.some.inj hp
        refine W_conv (M' := treeH ((y12x0_1, y12x0_2) : Int × TL T_Up) :: _) (fun w h => jnR (a := y12x0_1) (b := y12x0_2) (by first | (with_reducible repeat (first | exact Pick.here _ | apply Pick.there)); done | (repeat (first | exact Pick.here _ | apply Pick.there))) h) ?_
        refine W_ret ?_
        refine res2 rfl (ResOK.cell rfl (by first | (with_reducible repeat (first | exact List.Mem.head _ | apply List.Mem.tail)); done | (repeat (first | exact List.Mem.head _ | apply List.Mem.tail))) (by exact agg28)) (ResOK.tmp rfl) ⟨(y12x0_1, y12x0_2), false, rfl, rfl, rfl⟩ (MSub.cons (by first | (with_reducible repeat (first | exact Pick.here _ | apply Pick.there)); done | (repeat (first | exact Pick.here _ | apply Pick.there))) (MSub.nil _))
      · skip
        replace hp := cond_f hc11 hp
        refine W_skip ?_
        have ho := hp; clear hp; obtain ⟨u14, hy14, hp⟩ := idx_bind ho; clear ho
        obtain ⟨u14_1, u14_2, u14_3⟩ := u14
        have ho := hp; clear hp; obtain ⟨y15, hy15, hp⟩ := bind_any ho; clear ho
        refine W_DS (pre := [_, _, _, _, _, _, _, _, _, _, _, _]) (suf := [_, _, _]) [49, 50, 59] [] _ (perm_nil_left _) mix (by kernel_rfl) (by kernel_rfl) rfl ?_
        refine D_fieldAddr GC.none (OpV.t rfl) fld28_1 ?_
        refine D_load GC.none (OpV.t rfl) (fun hg => RdC.blk (by first | (with_reducible repeat (first | exact List.Mem.head _ | apply List.Mem.tail)); done | (repeat (first | exact List.Mem.head _ | apply List.Mem.tail)))) one26 rfl ?_
        refine D_move GC.none (OpV.t rfl) ?_
        refine D_fieldAddr GC.none (OpV.t rfl) fld28_1 ?_
        refine D_load GC.none (OpV.t rfl) (fun hg => RdC.blk (by first | (with_reducible repeat (first | exact List.Mem.head _ | apply List.Mem.tail)); done | (repeat (first | exact List.Mem.head _ | apply List.Mem.tail)))) one26 rfl ?_
        refine D_move GC.none (OpV.t rfl) ?_
        refine D_idxA (X := v4_1) GC.none (OpV.t rfl) (OpV.t rfl) el26 (RdT.tree (by first | (with_reducible repeat (first | exact List.Mem.head _ | apply List.Mem.tail)); done | (repeat (first | exact List.Mem.head _ | apply List.Mem.tail)))) (fun _ => hy14) ?_
        refine D_fieldAddr GC.none (OpV.t rfl) fld137_1 ?_
        refine D_load GC.none (OpV.t rfl) (fun hg => RdT.at (RdT.tree (by first | (with_reducible repeat (first | exact List.Mem.head _ | apply List.Mem.tail)); done | (repeat (first | exact List.Mem.head _ | apply List.Mem.tail)))) (hy14).2) one49 rfl ?_
        refine D_fieldAddr GC.none (OpV.t rfl) fld154_2 ?_
        refine D_load GC.none (OpV.t rfl) (fun hg => RdC.blk (by first | (with_reducible repeat (first | exact List.Mem.head _ | apply List.Mem.tail)); done | (repeat (first | exact List.Mem.head _ | apply List.Mem.tail)))) one3 rfl ?_
        refine D_call1R (fun v M => ∃ (x0 : TL Int), v = (TL.hdr x0) ∧ GT.dat x0 = y15 ∧ M = [treeH x0]) fn108 (OpVs.cons (OpV.t rfl) (OpVs.cons (OpV.t rfl) (OpVs.nil))) (by exact fun w F hF hM => i_with_walk w u14_2 u6_3 (RdT.nowS (RdT.fst (RdT.snd (RdT.of (RdT.tree (by first | (with_reducible repeat (first | exact List.Mem.head _ | apply List.Mem.tail)); done | (repeat (first | exact List.Mem.head _ | apply List.Mem.tail)))) (hy14).2))) hF hM) _ hy15) ?_
        refine DV_nil ?_
        refine Give_R rfl rfl ?_
        rintro vy15 My15 ⟨y15x0, hvy15, hdy15, rfl⟩
        subst hvy15
        subst hdy15
        refine Give_drop rfl ?_
        refine Give_drop rfl ?_
        refine Give_drop rfl ?_
        refine Give_drop rfl ?_
        refine Give_drop rfl ?_
        refine Give_drop rfl ?_
        refine Give_drop rfl ?_
        refine Give_drop rfl ?_
        refine Give_is rfl rfl ?_
        refine Give_is rfl rfl ?_
        refine Give_drop rfl ?_
        refine Give_nil ?_
        simp only [cells_pair, cells_int, cells_bool, cells_str, cells_TL, List.cons_append, List.nil_append]
        try dsimp only [dat_pair, dat_int, dat_bool, dat_str] at hp
        have ho := hp; clear hp; obtain ⟨u16, hy16, hp⟩ := idx_bind ho; clear ho
        obtain rfl : (u14_1, u14_2, u14_3) = u16 := Option.some.inj (hy14.2.symm.trans hy16.2)
        refine L_idxA (X := v4_1) rfl rfl rfl el26 (RdT.tree (by first | (with_reducible repeat (first | exact List.Mem.head _ | apply List.Mem.tail)); done | (repeat (first | exact List.Mem.head _ | apply List.Mem.tail)))) hy14 ?_
        refine L_fieldAddr rfl rfl fld137_1 ?_
        refine L_conv (M' := treeH (u14_1, u14_2, u14_3) :: holeH v4_1 (y7.toNat) (GT.cells (u14_1, u14_2, u14_3)) :: _) (fun w h => hole_open hy14.2 (by first | (with_reducible repeat (first | exact Pick.here _ | apply Pick.there)); done | (repeat (first | exact Pick.here _ | apply Pick.there))) h) ?_
        refine L_conv (M' := treeH (u14_2, u14_3) :: _) (fun w h => exR (a := u14_1) (by first | (with_reducible repeat (first | exact Pick.here _ | apply Pick.there)); done | (repeat (first | exact Pick.here _ | apply Pick.there))) h) ?_
        refine L_conv (M' := treeH u14_2 :: _) (fun w h => exL (b := u14_3) (by first | (with_reducible repeat (first | exact Pick.here _ | apply Pick.there)); done | (repeat (first | exact Pick.here _ | apply Pick.there))) h) ?_
        refine L_stH (X := v4_1) (i := y7.toNat) (sz := 3) (fo := 1) (n := 1) rfl rfl (by first | (with_reducible repeat (first | exact Pick.here _ | apply Pick.there)); done | (repeat (first | exact Pick.here _ | apply Pick.there))) rfl (.inr ⟨one49, rfl⟩) rfl (allOne rfl) (Nat.le_of_ble_eq_true rfl) ?_
        refine L_conv (M' := treeH ((y15x0, u14_3) : (TL Int) × Int) :: _) (fun w h => jnL (a := y15x0) (b := u14_3) (by first | (with_reducible repeat (first | exact Pick.here _ | apply Pick.there)); done | (repeat (first | exact Pick.here _ | apply Pick.there))) h) ?_
        refine L_conv (M' := treeH ((u14_1, (y15x0, u14_3)) : ByteArray × (TL Int) × Int) :: _) (fun w h => jnR (a := u14_1) (b := (y15x0, u14_3)) (by first | (with_reducible repeat (first | exact Pick.here _ | apply Pick.there)); done | (repeat (first | exact Pick.here _ | apply Pick.there))) h) ?_
        have ho := hp; clear hp; obtain ⟨y17, hy17, hp⟩ := bind_any ho; clear ho
        refine L_close (X := v4_1) ((u14_1, y15x0, u14_3) : T_Up) rfl (by first | (with_reducible repeat (first | exact Pick.here _ | apply Pick.there)); done | (repeat (first | exact Pick.here _ | apply Pick.there))) (by first | (with_reducible repeat (first | exact Pick.here _ | apply Pick.there)); done | (repeat (first | exact Pick.here _ | apply Pick.there))) hy17 (fun X18 hdX18 hhX18 => ?_)
        subst hdX18
        try rw [← hhX18]
        refine L_nil ?_
        refine W_region ?_
        refine L_binV rfl rfl rfl bv_add ?_
        refine L_move rfl rfl ?_
        refine L_nil ?_
        exact ⟨(IntKind.wrap .i64 (v4_0 + 1), X18), (Sub.cons rfl (Sub.cons rfl (Sub.cons rfl (Sub.cons rfl (Sub.cons rfl (Sub.cons rfl (Sub.nil _))))))), (Arr.sub (MSub.cons (by first | (with_reducible repeat (first | exact Pick.here _ | apply Pick.there)); done | (repeat (first | exact Pick.here _ | apply Pick.there))) (MSub.cons (by first | (with_reducible repeat (first | exact Pick.here _ | apply Pick.there)); done | (repeat (first | exact Pick.here _ | apply Pick.there))) (MSub.cons (by first | (with_reducible repeat (first | exact Pick.here _ | apply Pick.there)); done | (repeat (first | exact Pick.here _ | apply Pick.there))) (MSub.cons (by first | (with_reducible repeat (first | exact Pick.here _ | apply Pick.there)); done | (repeat (first | exact Pick.here _ | apply Pick.there))) (MSub.nil _)))))), some_eq hp⟩
    · skip
      replace hp := cond_f hc5 hp
      refine W_exit ?_
      have ho := hp; clear hp; obtain ⟨a19, hp, hx_a19⟩ := map_any ho; clear ho
      obtain rfl := hx4 _ hx_a19
      refine W_seq ?_
      refine W_region ?_
      refine L_loadW rfl rfl (RdC.blk (by first | (with_reducible repeat (first | exact List.Mem.head _ | apply List.Mem.tail)); done | (repeat (first | exact List.Mem.head _ | apply List.Mem.tail)))) (by exact agg28) ?_
      refine L_storeW rfl rfl (by first | (with_reducible repeat (first | exact Pick.here _ | apply Pick.there)); done | (repeat (first | exact Pick.here _ | apply Pick.there))) (by exact agg28) (by rfl) (by first | exact allOne rfl | exact fun v hv => GT.one _ v hv | (simp [Value.oneCell', TL.hdr, Value.cells]; done)) ?_
      refine L_assign rfl rfl ?_
      refine L_nil ?_
      obtain rfl := Option.some.inj hp
      refine W_conv (M' := treeH ((y3x0_1, v4_1) : Int × TL T_Up) :: _) (fun w h => jnR (a := y3x0_1) (b := v4_1) (by first | (with_reducible repeat (first | exact Pick.here _ | apply Pick.there)); done | (repeat (first | exact Pick.here _ | apply Pick.there))) h) ?_
      refine W_ret ?_
      refine res2 rfl (ResOK.cell rfl (by first | (with_reducible repeat (first | exact List.Mem.head _ | apply List.Mem.tail)); done | (repeat (first | exact List.Mem.head _ | apply List.Mem.tail))) (by exact agg28)) (ResOK.tmp rfl) ⟨(y3x0_1, v4_1), true, rfl, rfl, rfl⟩ (MSub.cons (by first | (with_reducible repeat (first | exact Pick.here _ | apply Pick.there)); done | (repeat (first | exact Pick.here _ | apply Pick.there))) (MSub.nil _))

end Go.Proofs.SL
