/- Walks of functions, each with the function on data that it follows. -/
import Derived.Test.YthebgoognabinaaLE
namespace Go.Proofs.SL
open Go
theorem fn98 : IsFn Try.prog 98 := ⟨_, Try.func98, by kernel_rfl, rfl⟩
theorem fn100 : IsFn Try.prog 100 := ⟨_, Try.func100, by kernel_rfl, rfl⟩
theorem fn102 : IsFn Try.prog 102 := ⟨_, Try.func102, by kernel_rfl, rfl⟩
theorem fn101 : IsFn Try.prog 101 := ⟨_, Try.func101, by kernel_rfl, rfl⟩
theorem fn103 : IsFn Try.prog 103 := ⟨_, Try.func103, by kernel_rfl, rfl⟩
theorem fn93 : IsFn Try.prog 93 := ⟨_, Try.func93, by kernel_rfl, rfl⟩
theorem fn94 : IsFn Try.prog 94 := ⟨_, Try.func94, by kernel_rfl, rfl⟩
theorem fn95 : IsFn Try.prog 95 := ⟨_, Try.func95, by kernel_rfl, rfl⟩
noncomputable def i_UpLost (a0 : D_Ups) (a1 : ByteArray) (a2 : Int) : Option (D_Ups × Bool) :=
  Option.bind (i_UpsOk (a0.1, a0.2)) (fun y1 => cond (!y1) (some ((0, ([] : List D_Up)), false)) (Option.bind (i_copyUps (a0.1, a0.2)) (fun y3 => Option.bind (i_Ups_at (a0.1, a0.2) a1) (fun y4 => gb (!(decide (y4 < 0))) (idx a0.2 y4) (fun y5 => gb (!(decide (y4 < 0))) (sl_Contains_intint y5.2.1 a2) (fun y6 => cond ((decide (y4 < 0)) || (!y6)) (some ((y3.1, y3.2), false)) (Option.bind (idx y3.2 y4) (fun y8 => Option.bind (sl_DeleteFunc_intint y8.2.1 (fun z0 => i_UpLost_c1 z0 a2)) (fun y9 => Option.bind (idx y3.2 y4) (fun y10 => Option.bind (some (y3.2.set (y4.toNat) (y8.1, y9, y8.2.2))) (fun y11 => Option.bind (idx y11 y4) (fun y13 => cond (decide ((y13.2.1.length : Int) = 0)) (Option.bind (delP y11 y4 (IntKind.wrap .i64 (y4 + 1))) (fun y15 => some ((y3.1, y15), true))) (some ((y3.1, y11), true))))))))))))))

theorem i_UpLost_walk (w : World) (a0 : T_Ups) (a1 : ByteArray) (a2 : Int) (h0 : GT.rd w [] a0) (r : D_Ups × Bool) (hp : i_UpLost (GT.dat a0) a1 a2 = some r) : Spec Try.prog 17 [.agg (GT.cells a0).toArray, .string a1, .int .i64 a2].toArray w [] (fun v M => ∃ (x0 : T_Ups) (x1 : Bool), v = .tuple #[.agg (GT.cells x0).toArray, .bool x1] ∧ (GT.dat x0, GT.dat x1) = r ∧ M = [treeH x0]) := by
  obtain ⟨a0_1, a0_2⟩ := a0
  change Spec _ _ ([Value.agg #[.int .i64 a0_1, (TL.hdr a0_2)], .string a1, .int .i64 a2] : List Value).toArray w [] _
  refine Spec.intro Try.func17 rfl Try.ntmps17 rfl ?_
  unfold i_UpLost at hp
  try dsimp only [dat_pair, dat_int, dat_bool, dat_str] at hp
  refine W_seq ?_
  refine W_region ?_
  refine L_box rfl rfl (fun bk3 => ?_)
  refine L_box rfl rfl (fun bk5 => ?_)
  refine L_alloc rfl zero28 (fun bk6 => ?_)
  refine L_assign rfl rfl ?_
  refine L_nil ?_
  refine W_seq ?_
  refine W_seq ?_
  refine W_region ?_
  refine L_loadW rfl rfl (RdC.blk (by first | (with_reducible repeat (first | exact List.Mem.head _ | apply List.Mem.tail)); done | (repeat (first | exact List.Mem.head _ | apply List.Mem.tail)))) (by exact agg28) ?_
  have ho := hp; clear hp; obtain ⟨y1, hy1, hp⟩ := bind_any ho; clear ho
  refine L_callX rfl fn97 rfl (by exact fun w hw => i_UpsOk_walk w (a0_1, a0_2) (RdT.now (RdT.pair RdT.int (RdT.old h0.2)) hw) _ hy1) ?_
  refine L_not rfl rfl ?_
  refine L_nil ?_
  refine W_weaken (l' := [(1, _), (3, _), (5, _), (6, _), (12, _)]) (Sub.cons rfl (Sub.cons rfl (Sub.cons rfl (Sub.cons rfl (Sub.cons rfl (Sub.nil _)))))) (MSub.refl _) ?_
  refine W_cond rfl (fun hc2 => ?_) (fun hc2 => ?_)
  · skip
    replace hp := cond_t hc2 hp
    refine W_seq ?_
    refine W_region ?_
    refine L_build (xs := []) (cs := [.int .i64 0, (TL.hdr (TL.nil T_Up 0))]) rfl rfl bld28 rfl ?_
    refine L_storeW rfl rfl (by first | (with_reducible repeat (first | exact Pick.here _ | apply Pick.there)); done | (repeat (first | exact Pick.here _ | apply Pick.there))) (by exact agg28) (by rfl) (by first | exact allOne rfl | exact fun v hv => GT.one _ v hv | (simp [Value.oneCell', TL.hdr, Value.cells]; done)) ?_
    refine L_assign rfl rfl ?_
    refine L_nil ?_
    obtain rfl := Option.some.inj hp
    refine W_conv (M' := treeH (TL.nil T_Up 0) :: _) (fun w h => addNilT (τ := T_Up) 0 h) ?_
    refine W_conv (M' := treeH ((0, (TL.nil T_Up 0)) : Int × TL T_Up) :: _) (fun w h => jnR (a := 0) (b := (TL.nil T_Up 0)) (by first | (with_reducible repeat (first | exact Pick.here _ | apply Pick.there)); done | (repeat (first | exact Pick.here _ | apply Pick.there))) h) ?_
    refine W_ret ?_
    refine res2 rfl (ResOK.cell rfl (by first | (with_reducible repeat (first | exact List.Mem.head _ | apply List.Mem.tail)); done | (repeat (first | exact List.Mem.head _ | apply List.Mem.tail))) (by exact agg28)) (ResOK.tmp rfl) ⟨(0, (TL.nil T_Up 0)), false, rfl, rfl, rfl⟩ (MSub.cons (by first | (with_reducible repeat (first | exact Pick.here _ | apply Pick.there)); done | (repeat (first | exact Pick.here _ | apply Pick.there))) (MSub.nil _))
  · skip
    replace hp := cond_f hc2 hp
    refine W_skip ?_
    refine W_seq ?_
    refine W_region ?_
    refine L_loadW rfl rfl (RdC.blk (by first | (with_reducible repeat (first | exact List.Mem.head _ | apply List.Mem.tail)); done | (repeat (first | exact List.Mem.head _ | apply List.Mem.tail)))) (by exact agg28) ?_
    have ho := hp; clear hp; obtain ⟨y3, hy3, hp⟩ := bind_any ho; clear ho
    refine L_callR rfl fn98 rfl (by exact fun w hw => i_copyUps_walk w (a0_1, a0_2) (RdT.now (RdT.pair RdT.int (RdT.old h0.2)) hw) _ hy3) ?_
    rintro vy3 My3 ⟨y3x0, hvy3, hdy3, rfl⟩
    subst hvy3
    subst hdy3
    obtain ⟨y3x0_1, y3x0_2⟩ := y3x0
    simp only [cells_pair, cells_int, cells_bool, cells_str, cells_TL, List.cons_append, List.nil_append]
    try dsimp only [dat_pair, dat_int, dat_bool, dat_str] at hp
    refine L_conv (M' := treeH y3x0_2 :: _) (fun w h => exR (a := y3x0_1) (by first | (with_reducible repeat (first | exact Pick.here _ | apply Pick.there)); done | (repeat (first | exact Pick.here _ | apply Pick.there))) h) ?_
    refine L_alloc rfl zero28 (fun bk8 => ?_)
    refine L_storeW rfl rfl (by first | (with_reducible repeat (first | exact Pick.here _ | apply Pick.there)); done | (repeat (first | exact Pick.here _ | apply Pick.there))) (by exact agg28) (by rfl) (by first | exact allOne rfl | exact fun v hv => GT.one _ v hv | (simp [Value.oneCell', TL.hdr, Value.cells]; done)) ?_
    refine L_nil ?_
    refine W_seq ?_
    refine W_region ?_
    refine L_loadW rfl rfl (RdC.blk (by first | (with_reducible repeat (first | exact List.Mem.head _ | apply List.Mem.tail)); done | (repeat (first | exact List.Mem.head _ | apply List.Mem.tail)))) (by exact agg28) ?_
    refine L_move rfl rfl ?_
    have ho := hp; clear hp; obtain ⟨y4, hy4, hp⟩ := bind_any ho; clear ho
    refine L_callX rfl fn99 rfl (by exact fun w hw => i_Ups_at_walk w (a0_1, a0_2) a1 (RdT.now (RdT.pair RdT.int (RdT.old h0.2)) hw) _ hy4) ?_
    refine L_assign rfl rfl ?_
    refine L_nil ?_
    refine W_seq ?_
    refine W_seq ?_
    have ho := hp; clear hp; obtain ⟨u5, hy5, hp⟩ := idx_gb ho; clear ho
    obtain ⟨u5_1, u5_2, u5_3⟩ := u5
    have ho := hp; clear hp; obtain ⟨y6, hy6, hp⟩ := gb_any ho; clear ho
    refine W_D0 [31] mix (by kernel_rfl) rfl ?_
    refine D_move GC.none (OpV.t rfl) ?_
    refine D_bin GC.none (OpV.t rfl) OpV.c (fun hg => bv_lss) ?_
    refine D_move GC.none (OpV.t rfl) ?_
    refine D_fieldAddr (GC.some rfl rfl) (OpV.t rfl) fld28_1 ?_
    refine D_load (GC.some rfl rfl) (OpV.s rfl) (fun hg => RdC.blk (by first | (with_reducible repeat (first | exact List.Mem.head _ | apply List.Mem.tail)); done | (repeat (first | exact List.Mem.head _ | apply List.Mem.tail)))) one26 rfl ?_
    refine D_move (GC.some rfl rfl) (OpV.t rfl) ?_
    refine D_idxA (X := a0_2) (GC.some rfl rfl) (OpV.s rfl) (OpV.s rfl) el26 (RdT.old h0.2) (fun hg => hy5 (gnot hg.2)) ?_
    refine D_fieldAddr (GC.some rfl rfl) (OpV.s rfl) fld137_1 ?_
    refine D_load (GC.some rfl rfl) (OpV.s rfl) (fun hg => RdT.at (RdT.old h0.2) (hy5 (gnot hg.2)).2) one49 rfl ?_
    refine D_load0 (GC.some rfl rfl) (OpV.t rfl) (fun hg => RdC.blk (by first | (with_reducible repeat (first | exact List.Mem.head _ | apply List.Mem.tail)); done | (repeat (first | exact List.Mem.head _ | apply List.Mem.tail)))) one3 rfl ?_
    refine D_callX (GC.some rfl rfl) fn100 (OpVs.cons (OpV.s rfl) (OpVs.cons (OpV.s rfl) (OpVs.nil))) (by exact fun hg w F hF hM => sl_Contains_intint_walk w u5_2 a2 (RdT.nowS (RdT.fst (RdT.snd (RdT.of (RdT.old h0.2) (hy5 (gnot hg.2)).2))) hF hM) _ (hy6 (gnot hg.2))) ?_
    refine D_not (GC.some rfl rfl) (OpV.s rfl) ?_
    refine D_or (cy := _) GC.none (OpV.t rfl) (OpV.s rfl) (fun h hb => ⟨h, hb⟩) ?_
    refine DV_nil ?_
    refine Give_is rfl rfl ?_
    refine Give_drop rfl ?_
    refine Give_drop rfl ?_
    refine Give_drop rfl ?_
    refine Give_drop rfl ?_
    refine Give_drop rfl ?_
    refine Give_drop rfl ?_
    refine Give_drop rfl ?_
    refine Give_drop rfl ?_
    refine Give_drop rfl ?_
    refine Give_drop rfl ?_
    refine Give_drop rfl ?_
    refine Give_drop rfl ?_
    refine Give_nil ?_
    refine W_weaken (l' := [(5, _), (6, _), (8, _), (9, _), (31, _)]) (Sub.cons rfl (Sub.cons rfl (Sub.cons rfl (Sub.cons rfl (Sub.cons rfl (Sub.nil _)))))) (MSub.refl _) ?_
    refine W_cond rfl (fun hc7 => ?_) (fun hc7 => ?_)
    · skip
      replace hp := cond_t hc7 hp
      refine W_seq ?_
      refine W_region ?_
      refine L_loadW rfl rfl (RdC.blk (by first | (with_reducible repeat (first | exact List.Mem.head _ | apply List.Mem.tail)); done | (repeat (first | exact List.Mem.head _ | apply List.Mem.tail)))) (by exact agg28) ?_
      refine L_storeW rfl rfl (by first | (with_reducible repeat (first | exact Pick.here _ | apply Pick.there)); done | (repeat (first | exact Pick.here _ | apply Pick.there))) (by exact agg28) (by rfl) (by first | exact allOne rfl | exact fun v hv => GT.one _ v hv | (simp [Value.oneCell', TL.hdr, Value.cells]; done)) ?_
      refine L_assign rfl rfl ?_
      refine L_nil ?_
      obtain rfl := Option.some.inj hp
      refine W_conv (M' := treeH ((y3x0_1, y3x0_2) : Int × TL T_Up) :: _) (fun w h => jnR (a := y3x0_1) (b := y3x0_2) (by first | (with_reducible repeat (first | exact Pick.here _ | apply Pick.there)); done | (repeat (first | exact Pick.here _ | apply Pick.there))) h) ?_
      refine W_ret ?_
      refine res2 rfl (ResOK.cell rfl (by first | (with_reducible repeat (first | exact List.Mem.head _ | apply List.Mem.tail)); done | (repeat (first | exact List.Mem.head _ | apply List.Mem.tail))) (by exact agg28)) (ResOK.tmp rfl) ⟨(y3x0_1, y3x0_2), false, rfl, rfl, rfl⟩ (MSub.cons (by first | (with_reducible repeat (first | exact Pick.here _ | apply Pick.there)); done | (repeat (first | exact Pick.here _ | apply Pick.there))) (MSub.nil _))
    · skip
      replace hp := cond_f hc7 hp
      refine W_skip ?_
      refine W_seq ?_
      have ho := hp; clear hp; obtain ⟨u8, hy8, hp⟩ := idx_bind ho; clear ho
      obtain ⟨u8_1, u8_2, u8_3⟩ := u8
      refine W_conv (M' := treeH (u8_1, u8_2, u8_3) :: holeH y3x0_2 (y4.toNat) (GT.cells (u8_1, u8_2, u8_3)) :: _) (fun w h => hole_open hy8.2 (by first | (with_reducible repeat (first | exact Pick.here _ | apply Pick.there)); done | (repeat (first | exact Pick.here _ | apply Pick.there))) h) ?_
      refine W_conv (M' := treeH (u8_2, u8_3) :: _) (fun w h => exR (a := u8_1) (by first | (with_reducible repeat (first | exact Pick.here _ | apply Pick.there)); done | (repeat (first | exact Pick.here _ | apply Pick.there))) h) ?_
      refine W_conv (M' := treeH u8_2 :: _) (fun w h => exL (b := u8_3) (by first | (with_reducible repeat (first | exact Pick.here _ | apply Pick.there)); done | (repeat (first | exact Pick.here _ | apply Pick.there))) h) ?_
      have ho := hp; clear hp; obtain ⟨y9, hy9, hp⟩ := bind_any ho; clear ho
      refine W_DS (pre := [_, _, _, _, _, _, _, _, _, _, _]) (suf := [_, _, _]) [34, 35, 43] [treeH u8_2] _ (perm_cons (by first | (with_reducible repeat (first | exact Pick.here _ | apply Pick.there)); done | (repeat (first | exact Pick.here _ | apply Pick.there))) (perm_nil_left _)) mix (by kernel_rfl) (by kernel_rfl) rfl ?_
      refine D_fieldAddr GC.none (OpV.t rfl) fld28_1 ?_
      refine D_load GC.none (OpV.t rfl) (fun hg => RdC.blk (by first | (with_reducible repeat (first | exact List.Mem.head _ | apply List.Mem.tail)); done | (repeat (first | exact List.Mem.head _ | apply List.Mem.tail)))) one26 rfl ?_
      refine D_move GC.none (OpV.t rfl) ?_
      refine D_fieldAddr GC.none (OpV.t rfl) fld28_1 ?_
      refine D_load GC.none (OpV.t rfl) (fun hg => RdC.blk (by first | (with_reducible repeat (first | exact List.Mem.head _ | apply List.Mem.tail)); done | (repeat (first | exact List.Mem.head _ | apply List.Mem.tail)))) one26 rfl ?_
      refine D_move GC.none (OpV.t rfl) ?_
      refine D_idxH (X := y3x0_2) GC.none (OpV.t rfl) (OpV.t rfl) el26 (by first | (with_reducible repeat (first | exact List.Mem.head _ | apply List.Mem.tail)); done | (repeat (first | exact List.Mem.head _ | apply List.Mem.tail))) (fun hg => hy8) ?_
      refine D_fieldAddr GC.none (OpV.t rfl) fld137_1 ?_
      refine D_load GC.none (OpV.t rfl) (fun hg => RdC.hole (X := y3x0_2) (by first | (with_reducible repeat (first | exact List.Mem.head _ | apply List.Mem.tail)); done | (repeat (first | exact List.Mem.head _ | apply List.Mem.tail)))) one49 rfl ?_
      refine D_makeFunc (cs := [.tmp 5]) GC.none (OpVs.cons (OpV.t rfl) (OpVs.nil)) ?_
      refine D_callM (fun v M => ∃ (x0 : TL Int), v = (TL.hdr x0) ∧ GT.dat x0 = y9 ∧ M = [treeH x0]) [treeH u8_2] (perm_cons (by first | (with_reducible repeat (first | exact Pick.here _ | apply Pick.there)); done | (repeat (first | exact Pick.here _ | apply Pick.there))) (perm_nil_left _)) fn101 (OpVs.cons (OpV.t rfl) (OpVs.cons (OpV.t rfl) (OpVs.nil))) (by exact fun w F hw hM => sl_DeleteFunc_intint_walk w u8_2 102 [Value.pointer (some ⟨bk5, 0, none⟩)] (fun z0 => i_UpLost_c1 z0 a2) fn102 (fun w' F u0 v hF hu0 hv => i_UpLost_c1_walk w' u0 bk5 a2  (cells_of_blk (List.mem_append_right _ (hM _ (by first | (with_reducible repeat (first | exact List.Mem.head _ | apply List.Mem.tail)); done | (repeat (first | exact List.Mem.head _ | apply List.Mem.tail))))) (Holds.frame hw hF).sees) (rd_carry (RdX.int w hw) hF) v hv) _ hy9) ?_
      refine DV_nil ?_
      refine Give_R rfl rfl ?_
      rintro vy9 My9 ⟨y9x0, hvy9, hdy9, rfl⟩
      subst hvy9
      subst hdy9
      refine Give_drop rfl ?_
      refine Give_drop rfl ?_
      refine Give_drop rfl ?_
      refine Give_drop rfl ?_
      refine Give_drop rfl ?_
      refine Give_drop rfl ?_
      refine Give_drop rfl ?_
      refine Give_is rfl rfl ?_
      refine Give_is rfl rfl ?_
      refine Give_drop rfl ?_
      refine Give_nil ?_
      simp only [cells_pair, cells_int, cells_bool, cells_str, cells_TL, List.cons_append, List.nil_append]
      try dsimp only [dat_pair, dat_int, dat_bool, dat_str] at hp
      have ho := hp; clear hp; obtain ⟨u10, hy10, hp⟩ := idx_bind ho; clear ho
      obtain rfl : (u8_1, u8_2, u8_3) = u10 := Option.some.inj (hy8.2.symm.trans hy10.2)
      refine L_idxH (X := y3x0_2) (cs := _) rfl rfl rfl el26 (by first | (with_reducible repeat (first | exact List.Mem.head _ | apply List.Mem.tail)); done | (repeat (first | exact List.Mem.head _ | apply List.Mem.tail))) hy8 ?_
      refine L_fieldAddr rfl rfl fld137_1 ?_
      refine L_stH (X := y3x0_2) (i := y4.toNat) (sz := 3) (fo := 1) (n := 1) rfl rfl (by first | (with_reducible repeat (first | exact Pick.here _ | apply Pick.there)); done | (repeat (first | exact Pick.here _ | apply Pick.there))) rfl (.inr ⟨one49, rfl⟩) rfl (allOne rfl) (Nat.le_of_ble_eq_true rfl) ?_
      refine L_conv (M' := treeH ((y9x0, u8_3) : (TL Int) × Int) :: _) (fun w h => jnL (a := y9x0) (b := u8_3) (by first | (with_reducible repeat (first | exact Pick.here _ | apply Pick.there)); done | (repeat (first | exact Pick.here _ | apply Pick.there))) h) ?_
      refine L_conv (M' := treeH ((u8_1, (y9x0, u8_3)) : ByteArray × (TL Int) × Int) :: _) (fun w h => jnR (a := u8_1) (b := (y9x0, u8_3)) (by first | (with_reducible repeat (first | exact Pick.here _ | apply Pick.there)); done | (repeat (first | exact Pick.here _ | apply Pick.there))) h) ?_
      have ho := hp; clear hp; obtain ⟨y11, hy11, hp⟩ := bind_any ho; clear ho
      refine L_close (X := y3x0_2) ((u8_1, y9x0, u8_3) : T_Up) rfl (by first | (with_reducible repeat (first | exact Pick.here _ | apply Pick.there)); done | (repeat (first | exact Pick.here _ | apply Pick.there))) (by first | (with_reducible repeat (first | exact Pick.here _ | apply Pick.there)); done | (repeat (first | exact Pick.here _ | apply Pick.there))) hy11 (fun X12 hdX12 hhX12 => ?_)
      subst hdX12
      try rw [← hhX12]
      refine L_nil ?_
      refine W_seq ?_
      refine W_seq ?_
      refine W_region ?_
      refine L_fieldAddr rfl rfl fld28_1 ?_
      refine L_load rfl rfl (RdC.blk (by first | (with_reducible repeat (first | exact List.Mem.head _ | apply List.Mem.tail)); done | (repeat (first | exact List.Mem.head _ | apply List.Mem.tail)))) one26 rfl ?_
      refine L_move rfl rfl ?_
      have ho := hp; clear hp; obtain ⟨u13, hy13, hp⟩ := idx_bind ho; clear ho
      obtain ⟨u13_1, u13_2, u13_3⟩ := u13
      refine L_idxA (X := X12) rfl rfl rfl el26 (RdT.tree (by first | (with_reducible repeat (first | exact List.Mem.head _ | apply List.Mem.tail)); done | (repeat (first | exact List.Mem.head _ | apply List.Mem.tail)))) hy13 ?_
      refine L_fieldAddr rfl rfl fld137_1 ?_
      refine L_load rfl rfl (RdT.at (RdT.tree (by first | (with_reducible repeat (first | exact List.Mem.head _ | apply List.Mem.tail)); done | (repeat (first | exact List.Mem.head _ | apply List.Mem.tail)))) (hy13).2) one49 rfl ?_
      refine L_lenP (X := u13_2) rfl rfl el49 ?_
      refine L_binV rfl rfl rfl bv_eql ?_
      refine L_nil ?_
      refine W_weaken (l' := [(6, _), (8, _), (9, _), (53, _)]) (Sub.cons rfl (Sub.cons rfl (Sub.cons rfl (Sub.cons rfl (Sub.nil _))))) (MSub.refl _) ?_
      refine W_cond rfl (fun hc14 => ?_) (fun hc14 => ?_)
      · skip
        replace hp := cond_t hc14 hp
        refine W_region ?_
        refine L_fieldAddr rfl rfl fld28_1 ?_
        refine L_load rfl rfl (RdC.blk (by first | (with_reducible repeat (first | exact List.Mem.head _ | apply List.Mem.tail)); done | (repeat (first | exact List.Mem.head _ | apply List.Mem.tail)))) one26 rfl ?_
        refine L_move rfl rfl ?_
        refine L_move rfl rfl ?_
        refine L_binV rfl rfl rfl bv_add ?_
        have ho := hp; clear hp; obtain ⟨y15, hy15, hp⟩ := bind_any ho; clear ho
        refine L_callM [treeH X12] _ rfl fn103 rfl (perm_cons (by first | (with_reducible repeat (first | exact Pick.here _ | apply Pick.there)); done | (repeat (first | exact Pick.here _ | apply Pick.there))) (perm_nil_left _)) (by exact fun w hw => sl_Delete_implUpimplUp_walk w X12 y4 (IntKind.wrap .i64 (y4 + 1))  _ hy15) ?_
        rintro vy15 My15 ⟨y15x0, hvy15, hdy15, rfl⟩
        subst hvy15
        subst hdy15
        simp only [cells_pair, cells_int, cells_bool, cells_str, cells_TL, List.cons_append, List.nil_append]
        try dsimp only [dat_pair, dat_int, dat_bool, dat_str] at hp
        refine L_fieldAddr rfl rfl fld28_1 ?_
        refine L_store rfl rfl (by first | (with_reducible repeat (first | exact Pick.here _ | apply Pick.there)); done | (repeat (first | exact Pick.here _ | apply Pick.there))) one26 rfl rfl ?_
        refine L_nil ?_
        refine W_seq ?_
        refine W_region ?_
        refine L_loadW rfl rfl (RdC.blk (by first | (with_reducible repeat (first | exact List.Mem.head _ | apply List.Mem.tail)); done | (repeat (first | exact List.Mem.head _ | apply List.Mem.tail)))) (by exact agg28) ?_
        refine L_storeW rfl rfl (by first | (with_reducible repeat (first | exact Pick.here _ | apply Pick.there)); done | (repeat (first | exact Pick.here _ | apply Pick.there))) (by exact agg28) (by rfl) (by first | exact allOne rfl | exact fun v hv => GT.one _ v hv | (simp [Value.oneCell', TL.hdr, Value.cells]; done)) ?_
        refine L_assign rfl rfl ?_
        refine L_nil ?_
        obtain rfl := Option.some.inj hp
        refine W_conv (M' := treeH ((y3x0_1, y15x0) : Int × TL T_Up) :: _) (fun w h => jnR (a := y3x0_1) (b := y15x0) (by first | (with_reducible repeat (first | exact Pick.here _ | apply Pick.there)); done | (repeat (first | exact Pick.here _ | apply Pick.there))) h) ?_
        refine W_ret ?_
        refine res2 rfl (ResOK.cell rfl (by first | (with_reducible repeat (first | exact List.Mem.head _ | apply List.Mem.tail)); done | (repeat (first | exact List.Mem.head _ | apply List.Mem.tail))) (by exact agg28)) (ResOK.tmp rfl) ⟨(y3x0_1, y15x0), true, rfl, rfl, rfl⟩ (MSub.cons (by first | (with_reducible repeat (first | exact Pick.here _ | apply Pick.there)); done | (repeat (first | exact Pick.here _ | apply Pick.there))) (MSub.nil _))
      · skip
        replace hp := cond_f hc14 hp
        refine W_skip ?_
        refine W_seq ?_
        refine W_region ?_
        refine L_loadW rfl rfl (RdC.blk (by first | (with_reducible repeat (first | exact List.Mem.head _ | apply List.Mem.tail)); done | (repeat (first | exact List.Mem.head _ | apply List.Mem.tail)))) (by exact agg28) ?_
        refine L_storeW rfl rfl (by first | (with_reducible repeat (first | exact Pick.here _ | apply Pick.there)); done | (repeat (first | exact Pick.here _ | apply Pick.there))) (by exact agg28) (by rfl) (by first | exact allOne rfl | exact fun v hv => GT.one _ v hv | (simp [Value.oneCell', TL.hdr, Value.cells]; done)) ?_
        refine L_assign rfl rfl ?_
        refine L_nil ?_
        obtain rfl := Option.some.inj hp
        refine W_conv (M' := treeH ((y3x0_1, X12) : Int × TL T_Up) :: _) (fun w h => jnR (a := y3x0_1) (b := X12) (by first | (with_reducible repeat (first | exact Pick.here _ | apply Pick.there)); done | (repeat (first | exact Pick.here _ | apply Pick.there))) h) ?_
        refine W_ret ?_
        refine res2 rfl (ResOK.cell rfl (by first | (with_reducible repeat (first | exact List.Mem.head _ | apply List.Mem.tail)); done | (repeat (first | exact List.Mem.head _ | apply List.Mem.tail))) (by exact agg28)) (ResOK.tmp rfl) ⟨(y3x0_1, X12), true, rfl, rfl, rfl⟩ (MSub.cons (by first | (with_reducible repeat (first | exact Pick.here _ | apply Pick.there)); done | (repeat (first | exact Pick.here _ | apply Pick.there))) (MSub.nil _))

noncomputable def s_UpLost (a0 : D_Ups) (a1 : ByteArray) (a2 : Int) : Option (D_Ups × Bool) :=
  Option.bind (s_UpsOk (a0.1, a0.2)) (fun y1 => cond (!y1) (some ((0, ([] : List D_Up)), false)) (Option.bind (s_l18At (a0.1, a0.2) a1) (fun y3 => gb (!(decide (y3 < 0))) (idx a0.2 y3) (fun y4 => gb (!(decide (y3 < 0))) (s_l18Has y4.2.1 a2) (fun y5 => cond ((decide (y3 < 0)) || (!y5)) (Option.bind (s_l18Copy (a0.1, a0.2)) (fun y7 => some ((y7.1, y7.2), false))) (Option.bind (idx a0.2 y3) (fun y8 => Option.bind (s_l18With y8.2.1 a2 false) (fun y9 => Option.bind (s_l18Copy (a0.1, a0.2)) (fun y10 => Option.bind (s_l18Set (y10.1, y10.2) (y8.1, y9, y8.2.2)) (fun y11 => some ((y11.1, y11.2), true)))))))))))

theorem s_UpLost_walk (w : World) (a0 : T_Ups) (a1 : ByteArray) (a2 : Int) (h0 : GT.rd w [] a0) (r : D_Ups × Bool) (hp : s_UpLost (GT.dat a0) a1 a2 = some r) : Spec Try.prog 15 [.agg (GT.cells a0).toArray, .string a1, .int .i64 a2].toArray w [] (fun v M => ∃ (x0 : T_Ups) (x1 : Bool), v = .tuple #[.agg (GT.cells x0).toArray, .bool x1] ∧ (GT.dat x0, GT.dat x1) = r ∧ M = [treeH x0]) := by
  obtain ⟨a0_1, a0_2⟩ := a0
  change Spec _ _ ([Value.agg #[.int .i64 a0_1, (TL.hdr a0_2)], .string a1, .int .i64 a2] : List Value).toArray w [] _
  refine Spec.intro Try.func15 rfl Try.ntmps15 rfl ?_
  unfold s_UpLost at hp
  try dsimp only [dat_pair, dat_int, dat_bool, dat_str] at hp
  refine W_seq ?_
  refine W_region ?_
  refine L_box rfl rfl (fun bk3 => ?_)
  refine L_alloc rfl zero28 (fun bk6 => ?_)
  refine L_assign rfl rfl ?_
  refine L_nil ?_
  refine W_seq ?_
  refine W_seq ?_
  refine W_region ?_
  refine L_loadW rfl rfl (RdC.blk (by first | (with_reducible repeat (first | exact List.Mem.head _ | apply List.Mem.tail)); done | (repeat (first | exact List.Mem.head _ | apply List.Mem.tail)))) (by exact agg28) ?_
  have ho := hp; clear hp; obtain ⟨y1, hy1, hp⟩ := bind_any ho; clear ho
  refine L_callX rfl fn85 rfl (by exact fun w hw => s_UpsOk_walk w (a0_1, a0_2) (RdT.now (RdT.pair RdT.int (RdT.old h0.2)) hw) _ hy1) ?_
  refine L_not rfl rfl ?_
  refine L_nil ?_
  refine W_weaken (l' := [(1, _), (2, _), (3, _), (6, _), (12, _)]) (Sub.cons rfl (Sub.cons rfl (Sub.cons rfl (Sub.cons rfl (Sub.cons rfl (Sub.nil _)))))) (MSub.refl _) ?_
  refine W_cond rfl (fun hc2 => ?_) (fun hc2 => ?_)
  · skip
    replace hp := cond_t hc2 hp
    refine W_seq ?_
    refine W_region ?_
    refine L_build (xs := []) (cs := [.int .i64 0, (TL.hdr (TL.nil T_Up 0))]) rfl rfl bld28 rfl ?_
    refine L_storeW rfl rfl (by first | (with_reducible repeat (first | exact Pick.here _ | apply Pick.there)); done | (repeat (first | exact Pick.here _ | apply Pick.there))) (by exact agg28) (by rfl) (by first | exact allOne rfl | exact fun v hv => GT.one _ v hv | (simp [Value.oneCell', TL.hdr, Value.cells]; done)) ?_
    refine L_assign rfl rfl ?_
    refine L_nil ?_
    obtain rfl := Option.some.inj hp
    refine W_conv (M' := treeH (TL.nil T_Up 0) :: _) (fun w h => addNilT (τ := T_Up) 0 h) ?_
    refine W_conv (M' := treeH ((0, (TL.nil T_Up 0)) : Int × TL T_Up) :: _) (fun w h => jnR (a := 0) (b := (TL.nil T_Up 0)) (by first | (with_reducible repeat (first | exact Pick.here _ | apply Pick.there)); done | (repeat (first | exact Pick.here _ | apply Pick.there))) h) ?_
    refine W_ret ?_
    refine res2 rfl (ResOK.cell rfl (by first | (with_reducible repeat (first | exact List.Mem.head _ | apply List.Mem.tail)); done | (repeat (first | exact List.Mem.head _ | apply List.Mem.tail))) (by exact agg28)) (ResOK.tmp rfl) ⟨(0, (TL.nil T_Up 0)), false, rfl, rfl, rfl⟩ (MSub.cons (by first | (with_reducible repeat (first | exact Pick.here _ | apply Pick.there)); done | (repeat (first | exact Pick.here _ | apply Pick.there))) (MSub.nil _))
  · skip
    replace hp := cond_f hc2 hp
    refine W_skip ?_
    refine W_seq ?_
    refine W_region ?_
    refine L_loadW rfl rfl (RdC.blk (by first | (with_reducible repeat (first | exact List.Mem.head _ | apply List.Mem.tail)); done | (repeat (first | exact List.Mem.head _ | apply List.Mem.tail)))) (by exact agg28) ?_
    refine L_move rfl rfl ?_
    have ho := hp; clear hp; obtain ⟨y3, hy3, hp⟩ := bind_any ho; clear ho
    refine L_callX rfl fn91 rfl (by exact fun w hw => s_l18At_walk w (a0_1, a0_2) a1 (RdT.now (RdT.pair RdT.int (RdT.old h0.2)) hw) _ hy3) ?_
    refine L_assign rfl rfl ?_
    refine L_nil ?_
    refine W_seq ?_
    refine W_seq ?_
    have ho := hp; clear hp; obtain ⟨u4, hy4, hp⟩ := idx_gb ho; clear ho
    obtain ⟨u4_1, u4_2, u4_3⟩ := u4
    have ho := hp; clear hp; obtain ⟨y5, hy5, hp⟩ := gb_any ho; clear ho
    refine W_D0 [29] mix (by kernel_rfl) rfl ?_
    refine D_move GC.none (OpV.t rfl) ?_
    refine D_bin GC.none (OpV.t rfl) OpV.c (fun hg => bv_lss) ?_
    refine D_move GC.none (OpV.t rfl) ?_
    refine D_fieldAddr (GC.some rfl rfl) (OpV.t rfl) fld28_1 ?_
    refine D_load (GC.some rfl rfl) (OpV.s rfl) (fun hg => RdC.blk (by first | (with_reducible repeat (first | exact List.Mem.head _ | apply List.Mem.tail)); done | (repeat (first | exact List.Mem.head _ | apply List.Mem.tail)))) one26 rfl ?_
    refine D_move (GC.some rfl rfl) (OpV.t rfl) ?_
    refine D_idxA (X := a0_2) (GC.some rfl rfl) (OpV.s rfl) (OpV.s rfl) el26 (RdT.old h0.2) (fun hg => hy4 (gnot hg.2)) ?_
    refine D_fieldAddr (GC.some rfl rfl) (OpV.s rfl) fld137_1 ?_
    refine D_load (GC.some rfl rfl) (OpV.s rfl) (fun hg => RdT.at (RdT.old h0.2) (hy4 (gnot hg.2)).2) one49 rfl ?_
    refine D_move (GC.some rfl rfl) (OpV.t rfl) ?_
    refine D_callX (GC.some rfl rfl) fn92 (OpVs.cons (OpV.s rfl) (OpVs.cons (OpV.s rfl) (OpVs.nil))) (by exact fun hg w F hF hM => s_l18Has_walk w u4_2 a2 (RdT.nowS (RdT.fst (RdT.snd (RdT.of (RdT.old h0.2) (hy4 (gnot hg.2)).2))) hF hM) _ (hy5 (gnot hg.2))) ?_
    refine D_not (GC.some rfl rfl) (OpV.s rfl) ?_
    refine D_or (cy := _) GC.none (OpV.t rfl) (OpV.s rfl) (fun h hb => ⟨h, hb⟩) ?_
    refine DV_nil ?_
    refine Give_is rfl rfl ?_
    refine Give_drop rfl ?_
    refine Give_drop rfl ?_
    refine Give_drop rfl ?_
    refine Give_drop rfl ?_
    refine Give_drop rfl ?_
    refine Give_drop rfl ?_
    refine Give_drop rfl ?_
    refine Give_drop rfl ?_
    refine Give_drop rfl ?_
    refine Give_drop rfl ?_
    refine Give_drop rfl ?_
    refine Give_drop rfl ?_
    refine Give_nil ?_
    refine W_weaken (l' := [(2, _), (3, _), (6, _), (8, _), (29, _)]) (Sub.cons rfl (Sub.cons rfl (Sub.cons rfl (Sub.cons rfl (Sub.cons rfl (Sub.nil _)))))) (MSub.refl _) ?_
    refine W_cond rfl (fun hc6 => ?_) (fun hc6 => ?_)
    · skip
      replace hp := cond_t hc6 hp
      refine W_seq ?_
      refine W_region ?_
      refine L_loadW rfl rfl (RdC.blk (by first | (with_reducible repeat (first | exact List.Mem.head _ | apply List.Mem.tail)); done | (repeat (first | exact List.Mem.head _ | apply List.Mem.tail)))) (by exact agg28) ?_
      have ho := hp; clear hp; obtain ⟨y7, hy7, hp⟩ := bind_any ho; clear ho
      refine L_callR rfl fn93 rfl (by exact fun w hw => s_l18Copy_walk w (a0_1, a0_2) (RdT.now (RdT.pair RdT.int (RdT.old h0.2)) hw) _ hy7) ?_
      rintro vy7 My7 ⟨y7x0, hvy7, hdy7, rfl⟩
      subst hvy7
      subst hdy7
      obtain ⟨y7x0_1, y7x0_2⟩ := y7x0
      simp only [cells_pair, cells_int, cells_bool, cells_str, cells_TL, List.cons_append, List.nil_append]
      try dsimp only [dat_pair, dat_int, dat_bool, dat_str] at hp
      refine L_conv (M' := treeH y7x0_2 :: _) (fun w h => exR (a := y7x0_1) (by first | (with_reducible repeat (first | exact Pick.here _ | apply Pick.there)); done | (repeat (first | exact Pick.here _ | apply Pick.there))) h) ?_
      refine L_storeW rfl rfl (by first | (with_reducible repeat (first | exact Pick.here _ | apply Pick.there)); done | (repeat (first | exact Pick.here _ | apply Pick.there))) (by exact agg28) (by rfl) (by first | exact allOne rfl | exact fun v hv => GT.one _ v hv | (simp [Value.oneCell', TL.hdr, Value.cells]; done)) ?_
      refine L_assign rfl rfl ?_
      refine L_nil ?_
      obtain rfl := Option.some.inj hp
      refine W_conv (M' := treeH ((y7x0_1, y7x0_2) : Int × TL T_Up) :: _) (fun w h => jnR (a := y7x0_1) (b := y7x0_2) (by first | (with_reducible repeat (first | exact Pick.here _ | apply Pick.there)); done | (repeat (first | exact Pick.here _ | apply Pick.there))) h) ?_
      refine W_ret ?_
      refine res2 rfl (ResOK.cell rfl (by first | (with_reducible repeat (first | exact List.Mem.head _ | apply List.Mem.tail)); done | (repeat (first | exact List.Mem.head _ | apply List.Mem.tail))) (by exact agg28)) (ResOK.tmp rfl) ⟨(y7x0_1, y7x0_2), false, rfl, rfl, rfl⟩ (MSub.cons (by first | (with_reducible repeat (first | exact Pick.here _ | apply Pick.there)); done | (repeat (first | exact Pick.here _ | apply Pick.there))) (MSub.nil _))
    · skip
      replace hp := cond_f hc6 hp
      refine W_skip ?_
      refine W_seq ?_
      refine W_region ?_
      refine L_fieldAddr rfl rfl fld28_1 ?_
      refine L_load rfl rfl (RdC.blk (by first | (with_reducible repeat (first | exact List.Mem.head _ | apply List.Mem.tail)); done | (repeat (first | exact List.Mem.head _ | apply List.Mem.tail)))) one26 rfl ?_
      refine L_move rfl rfl ?_
      have ho := hp; clear hp; obtain ⟨u8, hy8, hp⟩ := idx_bind ho; clear ho
      obtain ⟨u8_1, u8_2, u8_3⟩ := u8
      refine L_idxA (X := a0_2) rfl rfl rfl el26 (RdT.old h0.2) hy8 ?_
      refine L_loadW rfl rfl (RdT.at (RdT.old h0.2) (hy8).2) (by exact agg137) ?_
      refine L_alloc rfl zero137 (fun bk9 => ?_)
      refine L_storeW rfl rfl (by first | (with_reducible repeat (first | exact Pick.here _ | apply Pick.there)); done | (repeat (first | exact Pick.here _ | apply Pick.there))) (by exact agg137) (by rfl) (by first | exact allOne rfl | exact fun v hv => GT.one _ v hv | (simp [Value.oneCell', TL.hdr, Value.cells]; done)) ?_
      refine L_nil ?_
      refine W_seq ?_
      refine W_region ?_
      refine L_fieldAddr rfl rfl fld137_1 ?_
      refine L_load rfl rfl (RdC.blk (by first | (with_reducible repeat (first | exact List.Mem.head _ | apply List.Mem.tail)); done | (repeat (first | exact List.Mem.head _ | apply List.Mem.tail)))) one49 rfl ?_
      refine L_move rfl rfl ?_
      have ho := hp; clear hp; obtain ⟨y9, hy9, hp⟩ := bind_any ho; clear ho
      refine L_callR rfl fn94 rfl (by exact fun w hw => s_l18With_walk w u8_2 a2 false (RdT.now (RdT.fst (RdT.snd (RdT.of (RdT.old h0.2) (hy8).2))) hw) _ hy9) ?_
      rintro vy9 My9 ⟨y9x0, hvy9, hdy9, rfl⟩
      subst hvy9
      subst hdy9
      simp only [cells_pair, cells_int, cells_bool, cells_str, cells_TL, List.cons_append, List.nil_append]
      try dsimp only [dat_pair, dat_int, dat_bool, dat_str] at hp
      refine L_fieldAddr rfl rfl fld137_1 ?_
      refine L_store rfl rfl (by first | (with_reducible repeat (first | exact Pick.here _ | apply Pick.there)); done | (repeat (first | exact Pick.here _ | apply Pick.there))) one49 rfl rfl ?_
      refine L_nil ?_
      refine W_seq ?_
      have ho := hp; clear hp; obtain ⟨y10, hy10, hp⟩ := bind_any ho; clear ho
      refine W_DS (pre := [_, _, _]) (suf := [_, _, _]) [43, 44] [] _ (perm_nil_left _) mix (by kernel_rfl) (by kernel_rfl) rfl ?_
      refine D_loadW GC.none (OpV.t rfl) (fun hg => RdC.blk (by first | (with_reducible repeat (first | exact List.Mem.head _ | apply List.Mem.tail)); done | (repeat (first | exact List.Mem.head _ | apply List.Mem.tail)))) (by exact agg28) ?_
      refine D_call1R (fun v M => ∃ (x0 : T_Ups), v = .agg (GT.cells x0).toArray ∧ GT.dat x0 = y10 ∧ M = [treeH x0]) fn93 (OpVs.cons (OpV.t rfl) (OpVs.nil)) (by exact fun w F hF hM => s_l18Copy_walk w (a0_1, a0_2) (RdT.nowS (RdT.pair RdT.int (RdT.old h0.2)) hF hM) _ hy10) ?_
      refine D_loadW GC.none (OpV.t rfl) (fun hg => RdC.blk (by first | (with_reducible repeat (first | exact List.Mem.head _ | apply List.Mem.tail)); done | (repeat (first | exact List.Mem.head _ | apply List.Mem.tail)))) (by exact agg137) ?_
      refine DV_nil ?_
      refine Give_is rfl rfl ?_
      refine Give_R rfl rfl ?_
      rintro vy10 My10 ⟨y10x0, hvy10, hdy10, rfl⟩
      subst hvy10
      subst hdy10
      obtain ⟨y10x0_1, y10x0_2⟩ := y10x0
      refine Give_drop rfl ?_
      refine Give_nil ?_
      simp only [cells_pair, cells_int, cells_bool, cells_str, cells_TL, List.cons_append, List.nil_append]
      try dsimp only [dat_pair, dat_int, dat_bool, dat_str] at hp
      refine L_conv (M' := treeH y10x0_2 :: _) (fun w h => exR (a := y10x0_1) (by first | (with_reducible repeat (first | exact Pick.here _ | apply Pick.there)); done | (repeat (first | exact Pick.here _ | apply Pick.there))) h) ?_
      have ho := hp; clear hp; obtain ⟨y11, hy11, hp⟩ := bind_any ho; clear ho
      refine L_callM [treeH y10x0_2, treeH y9x0] _ rfl fn95 rfl (perm_cons (by first | (with_reducible repeat (first | exact Pick.here _ | apply Pick.there)); done | (repeat (first | exact Pick.here _ | apply Pick.there))) (perm_cons (by first | (with_reducible repeat (first | exact Pick.here _ | apply Pick.there)); done | (repeat (first | exact Pick.here _ | apply Pick.there))) (perm_nil_left _))) (by exact fun w hw => s_l18Set_walk w (y10x0_1, y10x0_2) (u8_1, y9x0, u8_3)  _ hy11) ?_
      rintro vy11 My11 ⟨y11x0, hvy11, hdy11, rfl⟩
      subst hvy11
      subst hdy11
      obtain ⟨y11x0_1, y11x0_2⟩ := y11x0
      simp only [cells_pair, cells_int, cells_bool, cells_str, cells_TL, List.cons_append, List.nil_append]
      try dsimp only [dat_pair, dat_int, dat_bool, dat_str] at hp
      refine L_conv (M' := treeH y11x0_2 :: _) (fun w h => exR (a := y11x0_1) (by first | (with_reducible repeat (first | exact Pick.here _ | apply Pick.there)); done | (repeat (first | exact Pick.here _ | apply Pick.there))) h) ?_
      refine L_storeW rfl rfl (by first | (with_reducible repeat (first | exact Pick.here _ | apply Pick.there)); done | (repeat (first | exact Pick.here _ | apply Pick.there))) (by exact agg28) (by rfl) (by first | exact allOne rfl | exact fun v hv => GT.one _ v hv | (simp [Value.oneCell', TL.hdr, Value.cells]; done)) ?_
      refine L_assign rfl rfl ?_
      refine L_nil ?_
      obtain rfl := Option.some.inj hp
      refine W_conv (M' := treeH ((y11x0_1, y11x0_2) : Int × TL T_Up) :: _) (fun w h => jnR (a := y11x0_1) (b := y11x0_2) (by first | (with_reducible repeat (first | exact Pick.here _ | apply Pick.there)); done | (repeat (first | exact Pick.here _ | apply Pick.there))) h) ?_
      refine W_ret ?_
      refine res2 rfl (ResOK.cell rfl (by first | (with_reducible repeat (first | exact List.Mem.head _ | apply List.Mem.tail)); done | (repeat (first | exact List.Mem.head _ | apply List.Mem.tail))) (by exact agg28)) (ResOK.tmp rfl) ⟨(y11x0_1, y11x0_2), true, rfl, rfl, rfl⟩ (MSub.cons (by first | (with_reducible repeat (first | exact Pick.here _ | apply Pick.there)); done | (repeat (first | exact Pick.here _ | apply Pick.there))) (MSub.nil _))

end Go.Proofs.SL
