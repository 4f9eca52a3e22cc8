/- The law FnExactSessTick. -/
import Derived.Test.YtkfdcccpphhofaaPB
namespace Go.Proofs.SL
open Go

theorem sessTick_bd (t : T_Desks) (n : Int) (g : T_Desks) (h : GT.dat g = (sessTickD (GT.dat t) n).1) : Bk.bulk g ≤ Bk.bulk t := by
  rw [Bd.eq, Bd.eq, h]
  generalize GT.dat t = d
  unfold sessTickD
  split
  · split
    · rw [bd_desks, bd_desks]
      dsimp only
      have h1 := bds_filter (τ := T_Sess) (fun s : D_Sess => decide (d.1 + n < s.2.2.1)) d.2.2
      have h2 := List.length_filter_le (fun s : D_Sess => decide (d.1 + n < s.2.2.1)) d.2.2
      omega
    · dsimp only; omega
  · show 0 + (0 + (0 + 0)) ≤ _; omega
theorem sessTick_bd2 (t : T_Desks) (n : Int) (g : TL Int) (h : GT.dat g = (sessTickD (GT.dat t) n).2) : Bk.bulk g ≤ Bk.bulk t := by
  rw [Bd.eq, Bd.eq, h, bd_ints, bd_desks]
  generalize GT.dat t = d
  unfold sessTickD
  split
  · split
    · dsimp only
      have h2 := List.length_filter_le (fun s : D_Sess => !decide (d.1 + n < s.2.2.1)) d.2.2
      rw [List.length_map]; omega
    · simp
  · simp

theorem fn18 : IsFn Try.prog 18 := ⟨_, Try.func18, by kernel_rfl, rfl⟩
theorem fn31 : IsFn Try.prog 31 := ⟨_, Try.func31, by kernel_rfl, rfl⟩
theorem agg24 : aggOf Try.prog 24 = some 3 := by kernel_rfl
theorem fn13 : IsFn Try.prog 13 := ⟨_, Try.func13, by kernel_rfl, rfl⟩
theorem fn15 : IsFn Try.prog 15 := ⟨_, Try.func15, by kernel_rfl, rfl⟩
theorem fn28 : IsFn Try.prog 28 := ⟨_, Try.func28, by kernel_rfl, rfl⟩
theorem fn29 : IsFn Try.prog 29 := ⟨_, Try.func29, by kernel_rfl, rfl⟩
theorem fn17 : IsFn Try.prog 17 := ⟨_, Try.func17, by kernel_rfl, rfl⟩
theorem fn30 : IsFn Try.prog 30 := ⟨_, Try.func30, by kernel_rfl, rfl⟩
theorem fn19 : IsFn Try.prog 19 := ⟨_, Try.func19, by kernel_rfl, rfl⟩
theorem fn32 : IsFn Try.prog 32 := ⟨_, Try.func32, by kernel_rfl, rfl⟩
theorem sSessTick_spec (w : World) (a0 : T_Desks) (a1 : Int) (h0 : GT.rd w [] a0) (ho0 : Ok.ok (GT.dat a0)) (ho1 : Ok.ok (GT.dat a1))  : Spec Try.prog 28 [.agg (GT.cells a0).toArray, .int .i64 a1].toArray w [] (fun v M => ∃ (x0 : T_Desks) (x1 : TL Int), v = .tuple #[.agg (GT.cells x0).toArray, x1.hdr] ∧ GT.dat x0 = (sessTickD (GT.dat a0) a1).1 ∧ GT.dat x1 = (sessTickD (GT.dat a0) a1).2 ∧ M = [treeH x0, treeH x1]) := (s_SessTick_walk w a0 a1 h0 _ (s_SessTick_eq ho0 ho1)).to fun v M ⟨x0, x1, hv, hd, hM⟩ => by
  exact ⟨x0, x1, hv, congrArg (fun z => z.1) hd, congrArg (fun z => z.2) hd, hM⟩
theorem iSessTick_spec (w : World) (a0 : T_Desks) (a1 : Int) (h0 : GT.rd w [] a0) (ho0 : Ok.ok (GT.dat a0)) (ho1 : Ok.ok (GT.dat a1))  : Spec Try.prog 29 [.agg (GT.cells a0).toArray, .int .i64 a1].toArray w [] (fun v M => ∃ (x0 : T_Desks) (x1 : TL Int), v = .tuple #[.agg (GT.cells x0).toArray, x1.hdr] ∧ GT.dat x0 = (sessTickD (GT.dat a0) a1).1 ∧ GT.dat x1 = (sessTickD (GT.dat a0) a1).2 ∧ M = [treeH x0, treeH x1]) := (i_SessTick_walk w a0 a1 h0 _ (i_SessTick_eq ho0 ho1)).to fun v M ⟨x0, x1, hv, hd, hM⟩ => by
  exact ⟨x0, x1, hv, congrArg (fun z => z.1) hd, congrArg (fun z => z.2) hd, hM⟩
theorem lawFnExactSessTick (w : World) (t1 : T_Desks) (t2 : Int) (h1 : GT.rd w [] t1) (h2 : GT.rd w [] t2) (ho1 : Ok.ok (GT.dat t1)) (ho2 : Ok.ok (GT.dat t2)) : Spec Try.prog 5 [.agg (GT.cells t1).toArray, .int .i64 t2].toArray w [] (IsV (.bool true)) := by
  refine Spec.intro Try.func5 rfl Try.ntmps5 rfl ?_
  refine W_seq ?_
  refine W_region ?_
  refine L_box rfl rfl (fun bk2 => ?_)
  refine L_assign rfl rfl ?_
  refine L_nil ?_
  refine W_seq ?_
  refine W_region ?_
  refine L_assign rfl rfl ?_
  refine L_nil ?_
  refine W_seq ?_
  refine W_region ?_
  refine L_loadW rfl rfl (by first | exact RdC.blk (by repeat (first | exact List.Mem.head _ | apply List.Mem.tail))) (by exact agg24) ?_
  refine L_move rfl rfl ?_
  refine L_callX rfl fn13 rfl (by exact fun w hw => szDesks_spec w t1 (1048576) (by omega) (by omega) (rd_carry h1 hw) ho1) ?_
  refine L_assign rfl rfl ?_
  refine L_nil ?_
  refine W_seq ?_
  refine W_seq ?_
  refine W_region ?_
  refine L_move rfl rfl ?_
  refine L_binV rfl rfl rfl bv_lss ?_
  refine L_nil ?_
  refine W_weaken (l' := [(1, _), (2, _), (20, _)]) (Sub.cons rfl (Sub.cons rfl (Sub.cons rfl (Sub.nil _)))) (MSub.refl _) ?_
  refine W_cond rfl (fun hc3 => ?_) (fun hc3 => ?_)
  · skip
    refine W_seq ?_
    refine W_region ?_
    refine L_assign rfl rfl ?_
    refine L_nil ?_
    refine W_ret ?_
    -- return 1 (R4)
    refine res1 rfl (ResOK.tmp rfl) ⟨?_, rfl⟩ (MSub.nil _)
    rfl
  · skip
    have hb1 : (Bk.bulk t1 : Int) ≤ 1048576 := by
      rcases Int.decLt (1048576) (Bk.bulk t1 : Int) with hn | hn
      · omega
      · rw [if_neg (by omega)] at hc3; simp at hc3
    rw [if_pos hb1]
    refine W_skip ?_
    refine W_seq ?_
    refine W_region ?_
    refine L_loadW rfl rfl (by first | exact RdC.blk (by repeat (first | exact List.Mem.head _ | apply List.Mem.tail))) (by exact agg24) ?_
    refine L_callR rfl fn15 rfl (by exact fun w hw => toDesks_spec w _ (rd_carry h1 hw) (by omega)) ?_
    rintro v M1 ⟨n1, hv, hn1, rfl⟩
    subst hv
    simp only [List.cons_append, List.nil_append]
    refine L_move rfl rfl ?_
    refine L_callR rfl fn28 rfl (by exact fun w hw => sSessTick_spec w n1 t2 (rd_of_tree (by repeat (first | exact List.Mem.head _ | apply List.Mem.tail)) hw.sees) (by rw [hn1]; exact ho1) ho2) ?_
    rintro v M1 ⟨r1_0, r1_1, hv, hr1_0, hr1_1, rfl⟩
    subst hv
    simp only [List.cons_append, List.nil_append]
    refine L_move rfl rfl ?_
    refine L_extract rfl rfl rfl ?_
    refine L_extract rfl rfl rfl ?_
    refine L_alloc rfl zero28 (fun bk6 => ?_)
    refine L_storeW rfl rfl (by repeat (first | exact Pick.here _ | apply Pick.there)) (by exact agg28) (by rfl) (by first | (simp [Value.oneCell', TL.hdr]; done) | (simp [Value.oneCell', TL.hdr, Value.cells]; done) | exact fun v hv => GT.one _ v hv) ?_
    refine L_assign rfl rfl ?_
    refine L_nil ?_
    refine W_seq ?_
    refine W_region ?_
    refine L_loadW rfl rfl (by first | exact RdC.blk (by repeat (first | exact List.Mem.head _ | apply List.Mem.tail))) (by exact agg24) ?_
    refine L_callR rfl fn15 rfl (by exact fun w hw => toDesks_spec w _ (rd_carry h1 hw) (by omega)) ?_
    rintro v M1 ⟨n2, hv, hn2, rfl⟩
    subst hv
    simp only [List.cons_append, List.nil_append]
    refine L_alloc rfl zero28 (fun bk8 => ?_)
    refine L_storeW rfl rfl (by repeat (first | exact Pick.here _ | apply Pick.there)) (by exact agg28) (by rfl) (by first | (simp [Value.oneCell', TL.hdr]; done) | (simp [Value.oneCell', TL.hdr, Value.cells]; done) | exact fun v hv => GT.one _ v hv) ?_
    refine L_nil ?_
    refine W_seq ?_
    refine W_region ?_
    refine L_loadW rfl rfl (by first | exact RdC.blk (by repeat (first | exact List.Mem.head _ | apply List.Mem.tail))) (by exact agg28) ?_
    refine L_move rfl rfl ?_
    refine L_callR rfl fn29 rfl (by exact fun w hw => iSessTick_spec w n2 t2 (rd_of_tree (by repeat (first | exact List.Mem.head _ | apply List.Mem.tail)) hw.sees) (by rw [hn2]; exact ho1) ho2) ?_
    rintro v M1 ⟨r2_0, r2_1, hv, hr2_0, hr2_1, rfl⟩
    subst hv
    simp only [List.cons_append, List.nil_append]
    refine L_move rfl rfl ?_
    refine L_extract rfl rfl rfl ?_
    refine L_extract rfl rfl rfl ?_
    refine L_alloc rfl zero28 (fun bk9 => ?_)
    refine L_storeW rfl rfl (by repeat (first | exact Pick.here _ | apply Pick.there)) (by exact agg28) (by rfl) (by first | (simp [Value.oneCell', TL.hdr]; done) | (simp [Value.oneCell', TL.hdr, Value.cells]; done) | exact fun v hv => GT.one _ v hv) ?_
    refine L_assign rfl rfl ?_
    refine L_nil ?_
    refine W_seq ?_
    refine W_seq ?_
    refine W_D0 [45] mix (by kernel_rfl) rfl ?_
    refine D_loadW GC.none (OpV.t rfl) (fun hg => (by first | exact RdC.blk (by repeat (first | exact List.Mem.head _ | apply List.Mem.tail)))) (by exact agg28) ?_
    refine D_loadW GC.none (OpV.t rfl) (fun hg => (by first | exact RdC.blk (by repeat (first | exact List.Mem.head _ | apply List.Mem.tail)))) (by exact agg28) ?_
    refine D_callX GC.none fn17 (OpVs.cons (OpV.t rfl) (OpVs.cons (OpV.t rfl) (OpVs.nil))) (by exact fun hg w F hF hM => eqDesks_spec w r2_0 r1_0 (rd_of_tree (hM _ (by repeat (first | exact List.Mem.head _ | apply List.Mem.tail))) hF.sees) (rd_of_tree (hM _ (by repeat (first | exact List.Mem.head _ | apply List.Mem.tail))) hF.sees)) ?_
    refine D_not GC.none (OpV.t rfl) ?_
    refine D_move GC.none (OpV.t rfl) ?_
    refine D_move (GC.some rfl rfl) (OpV.t rfl) ?_
    refine D_move (GC.some rfl rfl) (OpV.t rfl) ?_
    refine D_callX (GC.some rfl rfl) fn30 (OpVs.cons (OpV.s rfl) (OpVs.cons (OpV.s rfl) (OpVs.nil))) (by exact fun hg w F hF hM => eqIntS_spec w r2_1 r1_1 (rd_of_tree (hM _ (by repeat (first | exact List.Mem.head _ | apply List.Mem.tail))) hF.sees) (rd_of_tree (hM _ (by repeat (first | exact List.Mem.head _ | apply List.Mem.tail))) hF.sees)) ?_
    refine D_not (GC.some rfl rfl) (OpV.s rfl) ?_
    refine D_or (cy := _) GC.none (OpV.t rfl) (OpV.s rfl) (fun h hb => ⟨h, hb⟩) ?_
    refine DV_nil ?_
    refine Give_is rfl rfl ?_
    refine Give_drop rfl ?_
    refine Give_drop rfl ?_
    refine Give_drop rfl ?_
    refine Give_drop rfl ?_
    refine Give_drop rfl ?_
    refine Give_drop rfl ?_
    refine Give_drop rfl ?_
    refine Give_drop rfl ?_
    refine Give_drop rfl ?_
    refine Give_nil ?_
    refine W_weaken (l' := [(1, _), (2, _), (6, _), (7, _), (8, _), (9, _), (10, _), (45, _)]) (Sub.cons rfl (Sub.cons rfl (Sub.cons rfl (Sub.cons rfl (Sub.cons rfl (Sub.cons rfl (Sub.cons rfl (Sub.cons rfl (Sub.nil _))))))))) (MSub.refl _) ?_
    refine W_cond rfl (fun hc8 => ?_) (fun hc8 => ?_)
    · skip
      refine W_seq ?_
      refine W_region ?_
      refine L_assign rfl rfl ?_
      refine L_nil ?_
      refine W_ret ?_
      -- return 2 (R9)
      refine res1 rfl (ResOK.tmp rfl) ⟨?_, rfl⟩ (MSub.nil _)
      exfalso
      have hx2 : eqB (GT.dat r2_0) (GT.dat r1_0) = true := eqB_true.2 (by simp only [hn1, hr1_0, hr1_1, hn2, hr2_0, hr2_1])
      have hx7 : eqB (GT.dat r2_1) (GT.dat r1_1) = true := eqB_true.2 (by simp only [hn1, hr1_0, hr1_1, hn2, hr2_0, hr2_1])
      simp [hx2, hx7, hn1, hn2] at hc8 <;> omega
    · skip
      refine W_skip ?_
      refine W_seq ?_
      refine W_seq ?_
      refine W_D0 [50] mix (by kernel_rfl) rfl ?_
      refine D_loadW GC.none (OpV.t rfl) (fun hg => (by first | exact RdC.blk (by repeat (first | exact List.Mem.head _ | apply List.Mem.tail)))) (by exact agg28) ?_
      refine D_loadW GC.none (OpV.t rfl) (fun hg => (by first | exact RdC.blk (by repeat (first | exact List.Mem.head _ | apply List.Mem.tail)))) (by exact agg24) ?_
      refine D_call1R (fun v M => ∃ m : T_Desks, v = .agg (GT.cells m).toArray ∧ GT.dat m = GT.dat t1 ∧ M = [treeH m]) fn15 (OpVs.cons (OpV.t rfl) (OpVs.nil)) (by exact fun w F hF hM => (fun w hw => toDesks_spec w _ (rd_carry h1 hw) (by omega)) w hF) ?_
      refine D_callR [_, _] (FC True (.bool true)) fn17 ⟨⟨_, rfl, fun _ _ h => h⟩, ⟨_, rfl, fun _ _ h => h⟩, trivial⟩ (by
        rintro w F vs hw hM ⟨v1, u1, M1, rfl, ⟨rfl, hx1, _⟩, _, v2, u2, M2, rfl, ⟨m2, rfl, hd2x, rfl⟩, hin, rfl⟩
        obtain rfl := hx1 trivial
        have h := eqDesks_spec w n2 m2 (rd_of_tree (hM _ (by repeat (first | exact List.Mem.head _ | apply List.Mem.tail))) hw.sees) (rd_of_tree (hin _ (List.mem_singleton.2 rfl)) hw.sees)
        rw [eqB_true.2 (hn2.trans hd2x.symm)] at h
        exact h.toFC) ?_
      refine D_not GC.none (OpV.t rfl) ?_
      refine DV_nil ?_
      refine Give_is rfl rfl ?_
      refine Give_drop rfl ?_
      refine Give_drop rfl ?_
      refine Give_drop rfl ?_
      refine Give_drop rfl ?_
      refine Give_nil ?_
      refine W_weaken (l' := [(1, _), (2, _), (6, _), (7, _), (8, _), (9, _), (10, _), (50, _)]) (Sub.cons rfl (Sub.cons rfl (Sub.cons rfl (Sub.cons rfl (Sub.cons rfl (Sub.cons rfl (Sub.cons rfl (Sub.cons rfl (Sub.nil _))))))))) (MSub.refl _) ?_
      refine W_condF rfl ?_
      refine W_skip ?_
      refine W_seq ?_
      refine W_region ?_
      refine L_assign rfl rfl ?_
      refine L_nil ?_
      refine W_seq ?_
      have hc_n2 : Mv.cnt n2 ≤ 1000000000000 := cntv_le n2 rfl (by rw [bulk_dat hn2]; omega)
      refine W_region ?_
      refine L_loadW rfl rfl (by first | exact RdC.blk (by repeat (first | exact List.Mem.head _ | apply List.Mem.tail))) (by exact agg28) ?_
      refine L_move rfl rfl ?_
      refine L_call1 (h := treeH n2) rfl fn18 rfl (by repeat (first | exact Pick.here _ | apply Pick.there)) (by exact fun w hw => markDesks_spec w n2 1 (by omega) (by omega)) ?_
      rintro v M1 ⟨hv, rfl⟩
      subst hv
      simp only [List.cons_append, List.nil_append]
      refine L_assign rfl rfl ?_
      refine L_nil ?_
      refine W_seq ?_
      refine W_seq ?_
      refine W_D0 [67] mix (by kernel_rfl) rfl ?_
      refine D_move GC.none (OpV.t rfl) ?_
      refine D_bin GC.none (OpV.t rfl) OpV.c (fun hg => bv_lss) ?_
      refine D_move GC.none (OpV.t rfl) ?_
      refine D_loadW (GC.some rfl rfl) (OpV.t rfl) (fun hg => (by first | exact RdC.blk (by repeat (first | exact List.Mem.head _ | apply List.Mem.tail)))) (by exact agg28) ?_
      refine D_loadW (GC.some rfl rfl) (OpV.t rfl) (fun hg => (by first | exact RdC.blk (by repeat (first | exact List.Mem.head _ | apply List.Mem.tail)))) (by exact agg28) ?_
      refine D_callX (GC.some rfl rfl) fn17 (OpVs.cons (OpV.s rfl) (OpVs.cons (OpV.s rfl) (OpVs.nil))) (by exact fun hg w F hF hM => eqDesks_spec w r2_0 r1_0 (rd_of_tree (hM _ (by repeat (first | exact List.Mem.head _ | apply List.Mem.tail))) hF.sees) (rd_of_tree (hM _ (by repeat (first | exact List.Mem.head _ | apply List.Mem.tail))) hF.sees)) ?_
      refine D_not (GC.some rfl rfl) (OpV.s rfl) ?_
      refine D_or (cy := _) GC.none (OpV.t rfl) (OpV.s rfl) (fun h hb => ⟨h, hb⟩) ?_
      refine D_move GC.none (OpV.t rfl) ?_
      refine D_move (GC.some rfl rfl) (OpV.t rfl) ?_
      refine D_move (GC.some rfl rfl) (OpV.t rfl) ?_
      refine D_callX (GC.some rfl rfl) fn30 (OpVs.cons (OpV.s rfl) (OpVs.cons (OpV.s rfl) (OpVs.nil))) (by exact fun hg w F hF hM => eqIntS_spec w r2_1 r1_1 (rd_of_tree (hM _ (by repeat (first | exact List.Mem.head _ | apply List.Mem.tail))) hF.sees) (rd_of_tree (hM _ (by repeat (first | exact List.Mem.head _ | apply List.Mem.tail))) hF.sees)) ?_
      refine D_not (GC.some rfl rfl) (OpV.s rfl) ?_
      refine D_or (cy := _) GC.none (OpV.t rfl) (OpV.s rfl) (fun h hb => ⟨h, hb⟩) ?_
      refine DV_nil ?_
      refine Give_is rfl rfl ?_
      refine Give_drop rfl ?_
      refine Give_drop rfl ?_
      refine Give_drop rfl ?_
      refine Give_drop rfl ?_
      refine Give_drop rfl ?_
      refine Give_drop rfl ?_
      refine Give_drop rfl ?_
      refine Give_drop rfl ?_
      refine Give_drop rfl ?_
      refine Give_drop rfl ?_
      refine Give_drop rfl ?_
      refine Give_drop rfl ?_
      refine Give_drop rfl ?_
      refine Give_nil ?_
      refine W_weaken (l' := [(1, _), (2, _), (6, _), (7, _), (9, _), (10, _), (67, _)]) (Sub.cons rfl (Sub.cons rfl (Sub.cons rfl (Sub.cons rfl (Sub.cons rfl (Sub.cons rfl (Sub.cons rfl (Sub.nil _)))))))) (MSub.refl _) ?_
      refine W_cond rfl (fun hc14 => ?_) (fun hc14 => ?_)
      · skip
        refine W_seq ?_
        refine W_region ?_
        refine L_assign rfl rfl ?_
        refine L_nil ?_
        refine W_ret ?_
        -- return 3 (R15)
        refine res1 rfl (ResOK.tmp rfl) ⟨?_, rfl⟩ (MSub.nil _)
        exfalso
        have hx5 : eqB (GT.dat r2_0) (GT.dat r1_0) = true := eqB_true.2 (by simp only [hn1, hr1_0, hr1_1, hn2, hr2_0, hr2_1])
        have hx11 : eqB (GT.dat r2_1) (GT.dat r1_1) = true := eqB_true.2 (by simp only [hn1, hr1_0, hr1_1, hn2, hr2_0, hr2_1])
        simp [hx5, hx11, hn1, hn2] at hc14 <;> omega
      · skip
        refine W_skip ?_
        refine W_seq ?_
        refine W_region ?_
        refine L_assign rfl rfl ?_
        refine L_nil ?_
        refine W_seq ?_
        have hc_r2_0 : Mv.cnt r2_0 ≤ 1000000000000 := cntv_le r2_0 rfl (by have := sessTick_bd _ _ _ hr2_0; rw [bulk_dat hn2] at this; omega)
        refine W_region ?_
        refine L_loadW rfl rfl (by first | exact RdC.blk (by repeat (first | exact List.Mem.head _ | apply List.Mem.tail))) (by exact agg28) ?_
        refine L_move rfl rfl ?_
        refine L_call1 (h := treeH r2_0) rfl fn18 rfl (by repeat (first | exact Pick.here _ | apply Pick.there)) (by exact fun w hw => markDesks_spec w r2_0 1 (by omega) (by omega)) ?_
        rintro v M1 ⟨hv, rfl⟩
        subst hv
        simp only [List.cons_append, List.nil_append]
        refine L_assign rfl rfl ?_
        refine L_nil ?_
        refine W_seq ?_
        have hc_r2_1 : Mk.cnt r2_1 ≤ 1000000000000 := cntk_le r2_1 rfl (by have := sessTick_bd2 _ _ _ hr2_1; rw [bulk_dat hn2] at this; omega)
        refine W_region ?_
        refine L_move rfl rfl ?_
        refine L_move rfl rfl ?_
        refine L_call1 (h := treeH r2_1) rfl fn31 rfl (by repeat (first | exact Pick.here _ | apply Pick.there)) (by exact fun w hw => markIntS_spec w r2_1 (1 + Mv.cnt r2_0) (by omega) (by omega)) ?_
        rintro v M1 ⟨hv, rfl⟩
        subst hv
        simp only [List.cons_append, List.nil_append]
        refine L_assign rfl rfl ?_
        refine L_nil ?_
        refine W_seq ?_
        refine W_region ?_
        refine L_assign rfl rfl ?_
        refine L_nil ?_
        refine W_seq ?_
        refine W_region ?_
        refine L_loadW rfl rfl (by first | exact RdC.blk (by repeat (first | exact List.Mem.head _ | apply List.Mem.tail))) (by exact agg28) ?_
        refine L_move rfl rfl ?_
        refine L_callX rfl fn19 rfl (by exact fun w hw => (by have h := heldDesks_spec w r2_0 1 (by omega) (by omega) (rd_of_tree (by repeat (first | exact List.Mem.head _ | apply List.Mem.tail)) hw.sees); rw [Cv.eq] at h; exact h)) ?_
        refine L_assign rfl rfl ?_
        refine L_nil ?_
        refine W_seq ?_
        refine W_seq ?_
        refine W_region ?_
        refine L_move rfl rfl ?_
        refine L_binV rfl rfl rfl bv_lss ?_
        refine L_nil ?_
        refine W_weaken (l' := [(1, _), (2, _), (6, _), (7, _), (9, _), (10, _), (12, _), (13, _), (78, _)]) (Sub.cons rfl (Sub.cons rfl (Sub.cons rfl (Sub.cons rfl (Sub.cons rfl (Sub.cons rfl (Sub.cons rfl (Sub.cons rfl (Sub.cons rfl (Sub.nil _)))))))))) (MSub.refl _) ?_
        refine W_cond rfl (fun hc21 => ?_) (fun hc21 => ?_)
        · skip
          refine W_seq ?_
          refine W_region ?_
          refine L_assign rfl rfl ?_
          refine L_nil ?_
          refine W_ret ?_
          -- return 4 (R22)
          refine res1 rfl (ResOK.tmp rfl) ⟨?_, rfl⟩ (MSub.nil _)
          exfalso
          simp [hn1, hn2] at hc21 <;> omega
        · skip
          refine W_skip ?_
          refine W_seq ?_
          refine W_region ?_
          refine L_move rfl rfl ?_
          refine L_move rfl rfl ?_
          refine L_callX rfl fn32 rfl (by exact fun w hw => (by have h := heldIntS_spec w r2_1 (1 + Mv.cnt r2_0) (by omega) (by omega) (rd_of_tree (by repeat (first | exact List.Mem.head _ | apply List.Mem.tail)) hw.sees); rw [hdr_mk] at h; exact h)) ?_
          refine L_assign rfl rfl ?_
          refine L_nil ?_
          refine W_seq ?_
          refine W_seq ?_
          refine W_region ?_
          refine L_move rfl rfl ?_
          refine L_binV rfl rfl rfl bv_lss ?_
          refine L_nil ?_
          refine W_weaken (l' := [(1, _), (2, _), (6, _), (7, _), (9, _), (10, _), (12, _), (13, _), (83, _)]) (Sub.cons rfl (Sub.cons rfl (Sub.cons rfl (Sub.cons rfl (Sub.cons rfl (Sub.cons rfl (Sub.cons rfl (Sub.cons rfl (Sub.cons rfl (Sub.nil _)))))))))) (MSub.refl _) ?_
          refine W_cond rfl (fun hc24 => ?_) (fun hc24 => ?_)
          · skip
            refine W_seq ?_
            refine W_region ?_
            refine L_assign rfl rfl ?_
            refine L_nil ?_
            refine W_ret ?_
            -- return 5 (R25)
            refine res1 rfl (ResOK.tmp rfl) ⟨?_, rfl⟩ (MSub.nil _)
            exfalso
            simp [hn1, hn2] at hc24 <;> omega
          · skip
            refine W_skip ?_
            refine W_seq ?_
            refine W_seq ?_
            refine W_region ?_
            refine L_move rfl rfl ?_
            refine L_move rfl rfl ?_
            refine L_binV rfl rfl rfl bv_neq ?_
            refine L_nil ?_
            refine W_weaken (l' := [(1, _), (2, _), (6, _), (7, _), (9, _), (10, _), (12, _), (86, _)]) (Sub.cons rfl (Sub.cons rfl (Sub.cons rfl (Sub.cons rfl (Sub.cons rfl (Sub.cons rfl (Sub.cons rfl (Sub.cons rfl (Sub.nil _))))))))) (MSub.refl _) ?_
            refine W_cond rfl (fun hc26 => ?_) (fun hc26 => ?_)
            · skip
              refine W_seq ?_
              refine W_region ?_
              refine L_assign rfl rfl ?_
              refine L_nil ?_
              refine W_ret ?_
              -- return 6 (R27)
              refine res1 rfl (ResOK.tmp rfl) ⟨?_, rfl⟩ (MSub.nil _)
              exfalso
              simp [hn1, hn2] at hc26 <;> omega
            · skip
              refine W_skip ?_
              refine W_seq ?_
              refine W_region ?_
              refine L_loadW rfl rfl (by first | exact RdC.blk (by repeat (first | exact List.Mem.head _ | apply List.Mem.tail))) (by exact agg24) ?_
              refine L_callR rfl fn15 rfl (by exact fun w hw => toDesks_spec w _ (rd_carry h1 hw) (by omega)) ?_
              rintro v M1 ⟨n3, hv, hn3, rfl⟩
              subst hv
              simp only [List.cons_append, List.nil_append]
              refine L_move rfl rfl ?_
              refine L_callR rfl fn29 rfl (by exact fun w hw => iSessTick_spec w n3 t2 (rd_of_tree (by repeat (first | exact List.Mem.head _ | apply List.Mem.tail)) hw.sees) (by rw [hn3]; exact ho1) ho2) ?_
              rintro v M1 ⟨r3_0, r3_1, hv, hr3_0, hr3_1, rfl⟩
              subst hv
              simp only [List.cons_append, List.nil_append]
              refine L_move rfl rfl ?_
              refine L_extract rfl rfl rfl ?_
              refine L_extract rfl rfl rfl ?_
              refine L_alloc rfl zero28 (fun bk14 => ?_)
              refine L_storeW rfl rfl (by repeat (first | exact Pick.here _ | apply Pick.there)) (by exact agg28) (by rfl) (by first | (simp [Value.oneCell', TL.hdr]; done) | (simp [Value.oneCell', TL.hdr, Value.cells]; done) | exact fun v hv => GT.one _ v hv) ?_
              refine L_assign rfl rfl ?_
              refine L_nil ?_
              refine W_seq ?_
              refine W_seq ?_
              refine W_D0 [103] mix (by kernel_rfl) rfl ?_
              refine D_loadW GC.none (OpV.t rfl) (fun hg => (by first | exact RdC.blk (by repeat (first | exact List.Mem.head _ | apply List.Mem.tail)))) (by exact agg28) ?_
              refine D_loadW GC.none (OpV.t rfl) (fun hg => (by first | exact RdC.blk (by repeat (first | exact List.Mem.head _ | apply List.Mem.tail)))) (by exact agg28) ?_
              refine D_callX GC.none fn17 (OpVs.cons (OpV.t rfl) (OpVs.cons (OpV.t rfl) (OpVs.nil))) (by exact fun hg w F hF hM => eqDesks_spec w r3_0 r1_0 (rd_of_tree (hM _ (by repeat (first | exact List.Mem.head _ | apply List.Mem.tail))) hF.sees) (rd_of_tree (hM _ (by repeat (first | exact List.Mem.head _ | apply List.Mem.tail))) hF.sees)) ?_
              refine D_not GC.none (OpV.t rfl) ?_
              refine D_move GC.none (OpV.t rfl) ?_
              refine D_move (GC.some rfl rfl) (OpV.t rfl) ?_
              refine D_move (GC.some rfl rfl) (OpV.t rfl) ?_
              refine D_callX (GC.some rfl rfl) fn30 (OpVs.cons (OpV.s rfl) (OpVs.cons (OpV.s rfl) (OpVs.nil))) (by exact fun hg w F hF hM => eqIntS_spec w r3_1 r1_1 (rd_of_tree (hM _ (by repeat (first | exact List.Mem.head _ | apply List.Mem.tail))) hF.sees) (rd_of_tree (hM _ (by repeat (first | exact List.Mem.head _ | apply List.Mem.tail))) hF.sees)) ?_
              refine D_not (GC.some rfl rfl) (OpV.s rfl) ?_
              refine D_or (cy := _) GC.none (OpV.t rfl) (OpV.s rfl) (fun h hb => ⟨h, hb⟩) ?_
              refine DV_nil ?_
              refine Give_is rfl rfl ?_
              refine Give_drop rfl ?_
              refine Give_drop rfl ?_
              refine Give_drop rfl ?_
              refine Give_drop rfl ?_
              refine Give_drop rfl ?_
              refine Give_drop rfl ?_
              refine Give_drop rfl ?_
              refine Give_drop rfl ?_
              refine Give_drop rfl ?_
              refine Give_nil ?_
              refine W_weaken (l' := [(9, _), (10, _), (12, _), (103, _)]) (Sub.cons rfl (Sub.cons rfl (Sub.cons rfl (Sub.cons rfl (Sub.nil _))))) (MSub.refl _) ?_
              refine W_cond rfl (fun hc29 => ?_) (fun hc29 => ?_)
              · skip
                refine W_seq ?_
                refine W_region ?_
                refine L_assign rfl rfl ?_
                refine L_nil ?_
                refine W_ret ?_
                -- return 7 (R30)
                refine res1 rfl (ResOK.tmp rfl) ⟨?_, rfl⟩ (MSub.nil _)
                exfalso
                have hx2 : eqB (GT.dat r3_0) (GT.dat r1_0) = true := eqB_true.2 (by simp only [hn1, hr1_0, hr1_1, hn2, hr2_0, hr2_1, hn3, hr3_0, hr3_1])
                have hx7 : eqB (GT.dat r3_1) (GT.dat r1_1) = true := eqB_true.2 (by simp only [hn1, hr1_0, hr1_1, hn2, hr2_0, hr2_1, hn3, hr3_0, hr3_1])
                simp [hx2, hx7, hn1, hn2, hn3] at hc29 <;> omega
              · skip
                refine W_skip ?_
                refine W_seq ?_
                refine W_region ?_
                refine L_assign rfl rfl ?_
                refine L_nil ?_
                refine W_seq ?_
                refine W_region ?_
                refine L_loadW rfl rfl (by first | exact RdC.blk (by repeat (first | exact List.Mem.head _ | apply List.Mem.tail))) (by exact agg28) ?_
                refine L_move rfl rfl ?_
                refine L_callX rfl fn19 rfl (by exact fun w hw => (by have h := heldDesks_spec w r2_0 1 (by omega) (by omega) (rd_of_tree (by repeat (first | exact List.Mem.head _ | apply List.Mem.tail)) hw.sees); rw [Cv.eq] at h; exact h)) ?_
                refine L_assign rfl rfl ?_
                refine L_nil ?_
                refine W_seq ?_
                refine W_seq ?_
                refine W_region ?_
                refine L_move rfl rfl ?_
                refine L_binV rfl rfl rfl bv_lss ?_
                refine L_nil ?_
                refine W_weaken (l' := [(10, _), (12, _), (13, _), (108, _)]) (Sub.cons rfl (Sub.cons rfl (Sub.cons rfl (Sub.cons rfl (Sub.nil _))))) (MSub.refl _) ?_
                refine W_cond rfl (fun hc33 => ?_) (fun hc33 => ?_)
                · skip
                  refine W_seq ?_
                  refine W_region ?_
                  refine L_assign rfl rfl ?_
                  refine L_nil ?_
                  refine W_ret ?_
                  -- return 8 (R34)
                  refine res1 rfl (ResOK.tmp rfl) ⟨?_, rfl⟩ (MSub.nil _)
                  exfalso
                  simp [hn1, hn2, hn3] at hc33 <;> omega
                · skip
                  refine W_skip ?_
                  refine W_seq ?_
                  refine W_region ?_
                  refine L_move rfl rfl ?_
                  refine L_move rfl rfl ?_
                  refine L_callX rfl fn32 rfl (by exact fun w hw => (by have h := heldIntS_spec w r2_1 (1 + Mv.cnt r2_0) (by omega) (by omega) (rd_of_tree (by repeat (first | exact List.Mem.head _ | apply List.Mem.tail)) hw.sees); rw [hdr_mk] at h; exact h)) ?_
                  refine L_assign rfl rfl ?_
                  refine L_nil ?_
                  refine W_seq ?_
                  refine W_seq ?_
                  refine W_region ?_
                  refine L_move rfl rfl ?_
                  refine L_binV rfl rfl rfl bv_lss ?_
                  refine L_nil ?_
                  refine W_weaken (l' := [(12, _), (13, _), (113, _)]) (Sub.cons rfl (Sub.cons rfl (Sub.cons rfl (Sub.nil _)))) (MSub.refl _) ?_
                  refine W_cond rfl (fun hc36 => ?_) (fun hc36 => ?_)
                  · skip
                    refine W_seq ?_
                    refine W_region ?_
                    refine L_assign rfl rfl ?_
                    refine L_nil ?_
                    refine W_ret ?_
                    -- return 9 (R37)
                    refine res1 rfl (ResOK.tmp rfl) ⟨?_, rfl⟩ (MSub.nil _)
                    exfalso
                    simp [hn1, hn2, hn3] at hc36 <;> omega
                  · skip
                    refine W_skip ?_
                    refine W_seq ?_
                    refine W_seq ?_
                    refine W_region ?_
                    refine L_move rfl rfl ?_
                    refine L_move rfl rfl ?_
                    refine L_binV rfl rfl rfl bv_neq ?_
                    refine L_nil ?_
                    refine W_weaken (l' := [(116, _)]) (Sub.cons rfl (Sub.nil _)) (MSub.refl _) ?_
                    refine W_cond rfl (fun hc38 => ?_) (fun hc38 => ?_)
                    · skip
                      refine W_seq ?_
                      refine W_region ?_
                      refine L_assign rfl rfl ?_
                      refine L_nil ?_
                      refine W_ret ?_
                      -- return 10 (R39)
                      refine res1 rfl (ResOK.tmp rfl) ⟨?_, rfl⟩ (MSub.nil _)
                      exfalso
                      simp [hn1, hn2, hn3] at hc38 <;> omega
                    · skip
                      refine W_skip ?_
                      refine W_seq ?_
                      refine W_region ?_
                      refine L_assign rfl rfl ?_
                      refine L_nil ?_
                      refine W_ret ?_
                      -- return 11 (R40)
                      refine res1 rfl (ResOK.tmp rfl) ⟨?_, rfl⟩ (MSub.nil _)
                      rfl

end Go.Proofs.SL
