import Derived.Test.YtfcbkchggigoeaaT13
namespace Go.Proofs.SL
open Go

theorem bds_append {τ δ : Type} [GT τ δ] [Bk τ] [Bd τ] (xs ys : List δ) : bds τ (xs ++ ys) = bds τ xs + bds τ ys := by
  induction xs with
  | nil => simp [bds]
  | cons x xs ih => simp only [List.cons_append, bds, ih]; omega
theorem bd_desks (d : D_Desks) : Bd.bd (τ := T_Desks) d = d.2.2.length + bds T_Sess d.2.2 := by
  show 0 + (0 + (d.2.2.length + bds T_Sess d.2.2)) = _
  omega
theorem sessOpen_bd (t : T_Desks) (c wt : Int) (g : T_Desks) (h : GT.dat g = (sessOpenD (GT.dat t) c wt).1) : Bk.bulk g ≤ Bk.bulk t + 1 := by
  rw [Bd.eq, Bd.eq, h, bd_desks, bd_desks]
  unfold sessOpenD
  split
  · split
    · simp only [List.length_append, bds_append]
      have : bds T_Sess [((GT.dat t).2.1, c, (GT.dat t).1 + wt, [])] = 0 := rfl
      simp only [this, List.length_cons, List.length_nil]; omega
    · simp
  · simp [bds]

theorem fn29 : IsFn Try.prog 29 := ⟨_, Try.func29, by kernel_rfl, rfl⟩
theorem agg36 : aggOf Try.prog 36 = some 3 := by kernel_rfl
theorem fn16 : IsFn Try.prog 16 := ⟨_, Try.func16, by kernel_rfl, rfl⟩
theorem fn18 : IsFn Try.prog 18 := ⟨_, Try.func18, by kernel_rfl, rfl⟩
theorem fn32 : IsFn Try.prog 32 := ⟨_, Try.func32, by kernel_rfl, rfl⟩
theorem fn33 : IsFn Try.prog 33 := ⟨_, Try.func33, by kernel_rfl, rfl⟩
theorem fn20 : IsFn Try.prog 20 := ⟨_, Try.func20, by kernel_rfl, rfl⟩
theorem und4 : Try.prog.underlying 4 = some (.bool) := by kernel_rfl
theorem fn34 : IsFn Try.prog 34 := ⟨_, Try.func34, by kernel_rfl, rfl⟩
theorem lawFnExactSessOpen (w : World) (t1 : T_Desks) (t2 : Int) (t3 : Int) (h1 : GT.rd w [] t1) (h2 : GT.rd w [] t2) (h3 : GT.rd w [] t3) : Spec Try.prog 7 [.agg (GT.cells t1).toArray, .int .i64 t2, .int .i64 t3].toArray w [] (IsV (.bool true)) := by
  refine Spec.intro Try.func7 rfl Try.ntmps7 rfl ?_
  refine W_seq ?_
  refine W_region ?_
  refine L_box rfl rfl (fun bk3 => ?_)
  refine L_assign rfl rfl ?_
  refine L_nil ?_
  refine W_seq ?_
  refine W_region ?_
  refine L_assign rfl rfl ?_
  refine L_nil ?_
  refine W_seq ?_
  refine W_region ?_
  refine L_loadW rfl rfl (by first | exact RdC.blk (by repeat (first | exact List.Mem.head _ | apply List.Mem.tail))) (by exact agg36) ?_
  refine L_move rfl rfl ?_
  refine L_callX rfl fn16 rfl (by exact fun w hw => szDesks_spec w t1 (1048576) (by omega) (by omega) (rd_carry h1 hw)) ?_
  refine L_assign rfl rfl ?_
  refine L_nil ?_
  refine W_seq ?_
  refine W_seq ?_
  refine W_region ?_
  refine L_move rfl rfl ?_
  refine L_binV rfl rfl rfl bv_lss ?_
  refine L_nil ?_
  refine W_weaken (l' := [(1, _), (2, _), (3, _), (25, _)]) (Sub.cons rfl (Sub.cons rfl (Sub.cons rfl (Sub.cons rfl (Sub.nil _))))) (MSub.refl _) ?_
  refine W_cond rfl (fun hc3 => ?_) (fun hc3 => ?_)
  · skip
    refine W_seq ?_
    refine W_region ?_
    refine L_assign rfl rfl ?_
    refine L_nil ?_
    refine W_ret ?_
    -- return 1 (R4)
    refine res1 rfl (ResOK.tmp rfl) ⟨?_, rfl⟩ (MSub.nil _)
    rfl
  · skip
    have hb1 : (Bk.bulk t1 : Int) ≤ 1048576 := by
      rcases Int.decLt (1048576) (Bk.bulk t1 : Int) with hn | hn
      · omega
      · rw [if_neg (by omega)] at hc3; simp at hc3
    rw [if_pos hb1]
    refine W_skip ?_
    refine W_seq ?_
    refine W_region ?_
    refine L_loadW rfl rfl (by first | exact RdC.blk (by repeat (first | exact List.Mem.head _ | apply List.Mem.tail))) (by exact agg36) ?_
    refine L_callR rfl fn18 rfl (by exact fun w hw => toDesks_spec w _ (rd_carry h1 hw) (by omega)) ?_
    rintro v M1 ⟨n1, hv, hn1, rfl⟩
    subst hv
    simp only [List.cons_append, List.nil_append]
    refine L_move rfl rfl ?_
    refine L_move rfl rfl ?_
    refine L_callR rfl fn32 rfl (by exact fun w hw => sSessOpen_spec w n1 t2 t3 (rd_of_tree (by repeat (first | exact List.Mem.head _ | apply List.Mem.tail)) hw.sees) (by rw [bulk_dat hn1]; omega)) ?_
    rintro v M1 ⟨r1, hv, hr1, rfl⟩
    subst hv
    simp only [List.cons_append, List.nil_append]
    refine L_move rfl rfl ?_
    refine L_extract rfl rfl rfl ?_
    refine L_extract rfl rfl rfl ?_
    refine L_extract rfl rfl rfl ?_
    refine L_alloc rfl zero41 (fun bk8 => ?_)
    refine L_storeW rfl rfl (by repeat (first | exact Pick.here _ | apply Pick.there)) (by exact agg41) (by rfl) (by first | (simp [Value.oneCell', TL.hdr]; done) | exact fun v hv => GT.one _ v hv) ?_
    refine L_assign rfl rfl ?_
    refine L_assign rfl rfl ?_
    refine L_nil ?_
    refine W_seq ?_
    refine W_region ?_
    refine L_loadW rfl rfl (by first | exact RdC.blk (by repeat (first | exact List.Mem.head _ | apply List.Mem.tail))) (by exact agg36) ?_
    refine L_callR rfl fn18 rfl (by exact fun w hw => toDesks_spec w _ (rd_carry h1 hw) (by omega)) ?_
    rintro v M1 ⟨n2, hv, hn2, rfl⟩
    subst hv
    simp only [List.cons_append, List.nil_append]
    refine L_alloc rfl zero41 (fun bk11 => ?_)
    refine L_storeW rfl rfl (by repeat (first | exact Pick.here _ | apply Pick.there)) (by exact agg41) (by rfl) (by first | (simp [Value.oneCell', TL.hdr]; done) | exact fun v hv => GT.one _ v hv) ?_
    refine L_nil ?_
    refine W_seq ?_
    refine W_region ?_
    refine L_loadW rfl rfl (by first | exact RdC.blk (by repeat (first | exact List.Mem.head _ | apply List.Mem.tail))) (by exact agg41) ?_
    refine L_move rfl rfl ?_
    refine L_move rfl rfl ?_
    refine L_callR rfl fn33 rfl (by exact fun w hw => iSessOpen_spec w n2 t2 t3 (rd_of_tree (by repeat (first | exact List.Mem.head _ | apply List.Mem.tail)) hw.sees) (by rw [bulk_dat hn2]; omega)) ?_
    rintro v M1 ⟨r2, hv, hr2, rfl⟩
    subst hv
    simp only [List.cons_append, List.nil_append]
    refine L_move rfl rfl ?_
    refine L_extract rfl rfl rfl ?_
    refine L_extract rfl rfl rfl ?_
    refine L_extract rfl rfl rfl ?_
    refine L_alloc rfl zero41 (fun bk12 => ?_)
    refine L_storeW rfl rfl (by repeat (first | exact Pick.here _ | apply Pick.there)) (by exact agg41) (by rfl) (by first | (simp [Value.oneCell', TL.hdr]; done) | exact fun v hv => GT.one _ v hv) ?_
    refine L_assign rfl rfl ?_
    refine L_assign rfl rfl ?_
    refine L_nil ?_
    refine W_seq ?_
    refine W_seq ?_
    refine W_D0 [58] mix (by kernel_rfl) rfl ?_
    refine D_loadW GC.none (OpV.t rfl) (fun hg => (by first | exact RdC.blk (by repeat (first | exact List.Mem.head _ | apply List.Mem.tail)))) (by exact agg41) ?_
    refine D_loadW GC.none (OpV.t rfl) (fun hg => (by first | exact RdC.blk (by repeat (first | exact List.Mem.head _ | apply List.Mem.tail)))) (by exact agg41) ?_
    refine D_callX GC.none fn20 (OpVs.cons (OpV.t rfl) (OpVs.cons (OpV.t rfl) (OpVs.nil))) (by exact fun hg w F hF hM => eqDesks_spec w r2 r1 (rd_of_tree (hM _ (by repeat (first | exact List.Mem.head _ | apply List.Mem.tail))) hF.sees) (rd_of_tree (hM _ (by repeat (first | exact List.Mem.head _ | apply List.Mem.tail))) hF.sees)) ?_
    refine D_not GC.none (OpV.t rfl) ?_
    refine D_move GC.none (OpV.t rfl) ?_
    refine D_move (GC.some rfl rfl) (OpV.t rfl) ?_
    refine D_move (GC.some rfl rfl) (OpV.t rfl) ?_
    refine D_bin (GC.some rfl rfl) (OpV.s rfl) (OpV.s rfl) (fun hg => bv_neq) ?_
    refine D_or (cy := _) GC.none (OpV.t rfl) (OpV.s rfl) (fun h hb => ⟨h, hb⟩) ?_
    refine D_move GC.none (OpV.t rfl) ?_
    refine D_move (GC.some rfl rfl) (OpV.t rfl) ?_
    refine D_move (GC.some rfl rfl) (OpV.t rfl) ?_
    refine D_bin (GC.some rfl rfl) (OpV.s rfl) (OpV.s rfl) (fun hg => (bv_bneq und4)) ?_
    refine D_or (cy := _) GC.none (OpV.t rfl) (OpV.s rfl) (fun h hb => ⟨h, hb⟩) ?_
    refine DV_nil ?_
    refine Give_is rfl rfl ?_
    refine Give_drop rfl ?_
    refine Give_drop rfl ?_
    refine Give_drop rfl ?_
    refine Give_drop rfl ?_
    refine Give_drop rfl ?_
    refine Give_drop rfl ?_
    refine Give_drop rfl ?_
    refine Give_drop rfl ?_
    refine Give_drop rfl ?_
    refine Give_drop rfl ?_
    refine Give_drop rfl ?_
    refine Give_drop rfl ?_
    refine Give_drop rfl ?_
    refine Give_nil ?_
    refine W_weaken (l' := [(1, _), (2, _), (3, _), (8, _), (9, _), (10, _), (11, _), (12, _), (13, _), (14, _), (58, _)]) (Sub.cons rfl (Sub.cons rfl (Sub.cons rfl (Sub.cons rfl (Sub.cons rfl (Sub.cons rfl (Sub.cons rfl (Sub.cons rfl (Sub.cons rfl (Sub.cons rfl (Sub.cons rfl (Sub.nil _)))))))))))) (MSub.refl _) ?_
    refine W_cond rfl (fun hc8 => ?_) (fun hc8 => ?_)
    · skip
      refine W_seq ?_
      refine W_region ?_
      refine L_assign rfl rfl ?_
      refine L_nil ?_
      refine W_ret ?_
      -- return 2 (R9)
      refine res1 rfl (ResOK.tmp rfl) ⟨?_, rfl⟩ (MSub.nil _)
      exfalso
      have hx2 : eqB (GT.dat r2) (GT.dat r1) = true := eqB_true.2 (by simp only [hn1, hr1, hn2, hr2])
      simp [hx2, hn1, hn2] at hc8 <;> omega
    · skip
      refine W_skip ?_
      refine W_seq ?_
      refine W_seq ?_
      refine W_D0 [63] mix (by kernel_rfl) rfl ?_
      refine D_loadW GC.none (OpV.t rfl) (fun hg => (by first | exact RdC.blk (by repeat (first | exact List.Mem.head _ | apply List.Mem.tail)))) (by exact agg41) ?_
      refine D_loadW GC.none (OpV.t rfl) (fun hg => (by first | exact RdC.blk (by repeat (first | exact List.Mem.head _ | apply List.Mem.tail)))) (by exact agg36) ?_
      refine D_call1R (fun v M => ∃ m : T_Desks, v = .agg (GT.cells m).toArray ∧ GT.dat m = GT.dat t1 ∧ M = [treeH m]) fn18 (OpVs.cons (OpV.t rfl) (OpVs.nil)) (by exact fun w F hF hM => (fun w hw => toDesks_spec w _ (rd_carry h1 hw) (by omega)) w hF) ?_
      refine D_callR [_, _] (FC True (.bool true)) fn20 ⟨⟨_, rfl, fun _ _ h => h⟩, ⟨_, rfl, fun _ _ h => h⟩, trivial⟩ (by
        rintro w F vs hw hM ⟨v1, u1, M1, rfl, ⟨rfl, hx1, _⟩, _, v2, u2, M2, rfl, ⟨m2, rfl, hd2x, rfl⟩, hin, rfl⟩
        obtain rfl := hx1 trivial
        have h := eqDesks_spec w n2 m2 (rd_of_tree (hM _ (by repeat (first | exact List.Mem.head _ | apply List.Mem.tail))) hw.sees) (rd_of_tree (hin _ (List.mem_singleton.2 rfl)) hw.sees)
        rw [eqB_true.2 (hn2.trans hd2x.symm)] at h
        exact h.toFC) ?_
      refine D_not GC.none (OpV.t rfl) ?_
      refine DV_nil ?_
      refine Give_is rfl rfl ?_
      refine Give_drop rfl ?_
      refine Give_drop rfl ?_
      refine Give_drop rfl ?_
      refine Give_drop rfl ?_
      refine Give_nil ?_
      refine W_weaken (l' := [(1, _), (2, _), (3, _), (8, _), (9, _), (10, _), (11, _), (12, _), (13, _), (14, _), (63, _)]) (Sub.cons rfl (Sub.cons rfl (Sub.cons rfl (Sub.cons rfl (Sub.cons rfl (Sub.cons rfl (Sub.cons rfl (Sub.cons rfl (Sub.cons rfl (Sub.cons rfl (Sub.cons rfl (Sub.nil _)))))))))))) (MSub.refl _) ?_
      refine W_condF rfl ?_
      refine W_skip ?_
      refine W_seq ?_
      refine W_region ?_
      refine L_assign rfl rfl ?_
      refine L_nil ?_
      refine W_seq ?_
      have hc_n2 : Mv.cnt n2 ≤ 1000000000000 := cntv_le n2 rfl (by rw [bulk_dat hn2]; omega)
      refine W_region ?_
      refine L_loadW rfl rfl (by first | exact RdC.blk (by repeat (first | exact List.Mem.head _ | apply List.Mem.tail))) (by exact agg41) ?_
      refine L_move rfl rfl ?_
      refine L_call1 (h := treeH n2) rfl fn29 rfl (by repeat (first | exact Pick.here _ | apply Pick.there)) (by exact fun w hw => markDesks_spec w n2 1 (by omega) (by omega)) ?_
      rintro v M1 ⟨hv, rfl⟩
      subst hv
      simp only [List.cons_append, List.nil_append]
      refine L_assign rfl rfl ?_
      refine L_nil ?_
      refine W_seq ?_
      refine W_seq ?_
      refine W_D0 [84] mix (by kernel_rfl) rfl ?_
      refine D_move GC.none (OpV.t rfl) ?_
      refine D_bin GC.none (OpV.t rfl) OpV.c (fun hg => bv_lss) ?_
      refine D_move GC.none (OpV.t rfl) ?_
      refine D_loadW (GC.some rfl rfl) (OpV.t rfl) (fun hg => (by first | exact RdC.blk (by repeat (first | exact List.Mem.head _ | apply List.Mem.tail)))) (by exact agg41) ?_
      refine D_loadW (GC.some rfl rfl) (OpV.t rfl) (fun hg => (by first | exact RdC.blk (by repeat (first | exact List.Mem.head _ | apply List.Mem.tail)))) (by exact agg41) ?_
      refine D_callX (GC.some rfl rfl) fn20 (OpVs.cons (OpV.s rfl) (OpVs.cons (OpV.s rfl) (OpVs.nil))) (by exact fun hg w F hF hM => eqDesks_spec w r2 r1 (rd_of_tree (hM _ (by repeat (first | exact List.Mem.head _ | apply List.Mem.tail))) hF.sees) (rd_of_tree (hM _ (by repeat (first | exact List.Mem.head _ | apply List.Mem.tail))) hF.sees)) ?_
      refine D_not (GC.some rfl rfl) (OpV.s rfl) ?_
      refine D_or (cy := _) GC.none (OpV.t rfl) (OpV.s rfl) (fun h hb => ⟨h, hb⟩) ?_
      refine D_move GC.none (OpV.t rfl) ?_
      refine D_move (GC.some rfl rfl) (OpV.t rfl) ?_
      refine D_move (GC.some rfl rfl) (OpV.t rfl) ?_
      refine D_bin (GC.some rfl rfl) (OpV.s rfl) (OpV.s rfl) (fun hg => bv_neq) ?_
      refine D_or (cy := _) GC.none (OpV.t rfl) (OpV.s rfl) (fun h hb => ⟨h, hb⟩) ?_
      refine D_move GC.none (OpV.t rfl) ?_
      refine D_move (GC.some rfl rfl) (OpV.t rfl) ?_
      refine D_move (GC.some rfl rfl) (OpV.t rfl) ?_
      refine D_bin (GC.some rfl rfl) (OpV.s rfl) (OpV.s rfl) (fun hg => (bv_bneq und4)) ?_
      refine D_or (cy := _) GC.none (OpV.t rfl) (OpV.s rfl) (fun h hb => ⟨h, hb⟩) ?_
      refine DV_nil ?_
      refine Give_is rfl rfl ?_
      refine Give_drop rfl ?_
      refine Give_drop rfl ?_
      refine Give_drop rfl ?_
      refine Give_drop rfl ?_
      refine Give_drop rfl ?_
      refine Give_drop rfl ?_
      refine Give_drop rfl ?_
      refine Give_drop rfl ?_
      refine Give_drop rfl ?_
      refine Give_drop rfl ?_
      refine Give_drop rfl ?_
      refine Give_drop rfl ?_
      refine Give_drop rfl ?_
      refine Give_drop rfl ?_
      refine Give_drop rfl ?_
      refine Give_drop rfl ?_
      refine Give_drop rfl ?_
      refine Give_nil ?_
      refine W_weaken (l' := [(1, _), (2, _), (3, _), (8, _), (9, _), (10, _), (12, _), (84, _)]) (Sub.cons rfl (Sub.cons rfl (Sub.cons rfl (Sub.cons rfl (Sub.cons rfl (Sub.cons rfl (Sub.cons rfl (Sub.cons rfl (Sub.nil _))))))))) (MSub.refl _) ?_
      refine W_cond rfl (fun hc14 => ?_) (fun hc14 => ?_)
      · skip
        refine W_seq ?_
        refine W_region ?_
        refine L_assign rfl rfl ?_
        refine L_nil ?_
        refine W_ret ?_
        -- return 3 (R15)
        refine res1 rfl (ResOK.tmp rfl) ⟨?_, rfl⟩ (MSub.nil _)
        exfalso
        have hx5 : eqB (GT.dat r2) (GT.dat r1) = true := eqB_true.2 (by simp only [hn1, hr1, hn2, hr2])
        simp [hx5, hn1, hn2] at hc14 <;> omega
      · skip
        refine W_skip ?_
        refine W_seq ?_
        refine W_region ?_
        refine L_assign rfl rfl ?_
        refine L_nil ?_
        refine W_seq ?_
        have hc_r2 : Mv.cnt r2 ≤ 1000000000000 := cntv_le r2 rfl (by have := sessOpen_bd _ _ _ _ hr2; rw [bulk_dat hn2] at this; omega)
        refine W_region ?_
        refine L_loadW rfl rfl (by first | exact RdC.blk (by repeat (first | exact List.Mem.head _ | apply List.Mem.tail))) (by exact agg41) ?_
        refine L_move rfl rfl ?_
        refine L_call1 (h := treeH r2) rfl fn29 rfl (by repeat (first | exact Pick.here _ | apply Pick.there)) (by exact fun w hw => markDesks_spec w r2 1 (by omega) (by omega)) ?_
        rintro v M1 ⟨hv, rfl⟩
        subst hv
        simp only [List.cons_append, List.nil_append]
        refine L_assign rfl rfl ?_
        refine L_nil ?_
        refine W_seq ?_
        refine W_region ?_
        refine L_assign rfl rfl ?_
        refine L_nil ?_
        refine W_seq ?_
        refine W_region ?_
        refine L_loadW rfl rfl (by first | exact RdC.blk (by repeat (first | exact List.Mem.head _ | apply List.Mem.tail))) (by exact agg41) ?_
        refine L_move rfl rfl ?_
        refine L_callX rfl fn34 rfl (by exact fun w hw => (by have h := heldDesks_spec w r2 1 (by omega) (by omega) (rd_of_tree (by repeat (first | exact List.Mem.head _ | apply List.Mem.tail)) hw.sees); rw [Cv.eq] at h; exact h)) ?_
        refine L_assign rfl rfl ?_
        refine L_nil ?_
        refine W_seq ?_
        refine W_seq ?_
        refine W_region ?_
        refine L_move rfl rfl ?_
        refine L_binV rfl rfl rfl bv_lss ?_
        refine L_nil ?_
        refine W_weaken (l' := [(1, _), (2, _), (3, _), (8, _), (9, _), (10, _), (12, _), (16, _), (17, _), (92, _)]) (Sub.cons rfl (Sub.cons rfl (Sub.cons rfl (Sub.cons rfl (Sub.cons rfl (Sub.cons rfl (Sub.cons rfl (Sub.cons rfl (Sub.cons rfl (Sub.cons rfl (Sub.nil _))))))))))) (MSub.refl _) ?_
        refine W_cond rfl (fun hc20 => ?_) (fun hc20 => ?_)
        · skip
          refine W_seq ?_
          refine W_region ?_
          refine L_assign rfl rfl ?_
          refine L_nil ?_
          refine W_ret ?_
          -- return 4 (R21)
          refine res1 rfl (ResOK.tmp rfl) ⟨?_, rfl⟩ (MSub.nil _)
          exfalso
          simp [hn1, hn2] at hc20 <;> omega
        · skip
          refine W_skip ?_
          refine W_seq ?_
          refine W_seq ?_
          refine W_region ?_
          refine L_move rfl rfl ?_
          refine L_move rfl rfl ?_
          refine L_binV rfl rfl rfl bv_neq ?_
          refine L_nil ?_
          refine W_weaken (l' := [(1, _), (2, _), (3, _), (8, _), (9, _), (10, _), (12, _), (16, _), (95, _)]) (Sub.cons rfl (Sub.cons rfl (Sub.cons rfl (Sub.cons rfl (Sub.cons rfl (Sub.cons rfl (Sub.cons rfl (Sub.cons rfl (Sub.cons rfl (Sub.nil _)))))))))) (MSub.refl _) ?_
          refine W_cond rfl (fun hc22 => ?_) (fun hc22 => ?_)
          · skip
            refine W_seq ?_
            refine W_region ?_
            refine L_assign rfl rfl ?_
            refine L_nil ?_
            refine W_ret ?_
            -- return 5 (R23)
            refine res1 rfl (ResOK.tmp rfl) ⟨?_, rfl⟩ (MSub.nil _)
            exfalso
            simp [hn1, hn2] at hc22 <;> omega
          · skip
            refine W_skip ?_
            refine W_seq ?_
            refine W_region ?_
            refine L_loadW rfl rfl (by first | exact RdC.blk (by repeat (first | exact List.Mem.head _ | apply List.Mem.tail))) (by exact agg36) ?_
            refine L_callR rfl fn18 rfl (by exact fun w hw => toDesks_spec w _ (rd_carry h1 hw) (by omega)) ?_
            rintro v M1 ⟨n3, hv, hn3, rfl⟩
            subst hv
            simp only [List.cons_append, List.nil_append]
            refine L_move rfl rfl ?_
            refine L_move rfl rfl ?_
            refine L_callR rfl fn33 rfl (by exact fun w hw => iSessOpen_spec w n3 t2 t3 (rd_of_tree (by repeat (first | exact List.Mem.head _ | apply List.Mem.tail)) hw.sees) (by rw [bulk_dat hn3]; omega)) ?_
            rintro v M1 ⟨r3, hv, hr3, rfl⟩
            subst hv
            simp only [List.cons_append, List.nil_append]
            refine L_move rfl rfl ?_
            refine L_extract rfl rfl rfl ?_
            refine L_extract rfl rfl rfl ?_
            refine L_extract rfl rfl rfl ?_
            refine L_alloc rfl zero41 (fun bk18 => ?_)
            refine L_storeW rfl rfl (by repeat (first | exact Pick.here _ | apply Pick.there)) (by exact agg41) (by rfl) (by first | (simp [Value.oneCell', TL.hdr]; done) | exact fun v hv => GT.one _ v hv) ?_
            refine L_assign rfl rfl ?_
            refine L_assign rfl rfl ?_
            refine L_nil ?_
            refine W_seq ?_
            refine W_seq ?_
            refine W_D0 [118] mix (by kernel_rfl) rfl ?_
            refine D_loadW GC.none (OpV.t rfl) (fun hg => (by first | exact RdC.blk (by repeat (first | exact List.Mem.head _ | apply List.Mem.tail)))) (by exact agg41) ?_
            refine D_loadW GC.none (OpV.t rfl) (fun hg => (by first | exact RdC.blk (by repeat (first | exact List.Mem.head _ | apply List.Mem.tail)))) (by exact agg41) ?_
            refine D_callX GC.none fn20 (OpVs.cons (OpV.t rfl) (OpVs.cons (OpV.t rfl) (OpVs.nil))) (by exact fun hg w F hF hM => eqDesks_spec w r3 r1 (rd_of_tree (hM _ (by repeat (first | exact List.Mem.head _ | apply List.Mem.tail))) hF.sees) (rd_of_tree (hM _ (by repeat (first | exact List.Mem.head _ | apply List.Mem.tail))) hF.sees)) ?_
            refine D_not GC.none (OpV.t rfl) ?_
            refine D_move GC.none (OpV.t rfl) ?_
            refine D_move (GC.some rfl rfl) (OpV.t rfl) ?_
            refine D_move (GC.some rfl rfl) (OpV.t rfl) ?_
            refine D_bin (GC.some rfl rfl) (OpV.s rfl) (OpV.s rfl) (fun hg => bv_neq) ?_
            refine D_or (cy := _) GC.none (OpV.t rfl) (OpV.s rfl) (fun h hb => ⟨h, hb⟩) ?_
            refine D_move GC.none (OpV.t rfl) ?_
            refine D_move (GC.some rfl rfl) (OpV.t rfl) ?_
            refine D_move (GC.some rfl rfl) (OpV.t rfl) ?_
            refine D_bin (GC.some rfl rfl) (OpV.s rfl) (OpV.s rfl) (fun hg => (bv_bneq und4)) ?_
            refine D_or (cy := _) GC.none (OpV.t rfl) (OpV.s rfl) (fun h hb => ⟨h, hb⟩) ?_
            refine DV_nil ?_
            refine Give_is rfl rfl ?_
            refine Give_drop rfl ?_
            refine Give_drop rfl ?_
            refine Give_drop rfl ?_
            refine Give_drop rfl ?_
            refine Give_drop rfl ?_
            refine Give_drop rfl ?_
            refine Give_drop rfl ?_
            refine Give_drop rfl ?_
            refine Give_drop rfl ?_
            refine Give_drop rfl ?_
            refine Give_drop rfl ?_
            refine Give_drop rfl ?_
            refine Give_drop rfl ?_
            refine Give_nil ?_
            refine W_weaken (l' := [(12, _), (16, _), (118, _)]) (Sub.cons rfl (Sub.cons rfl (Sub.cons rfl (Sub.nil _)))) (MSub.refl _) ?_
            refine W_cond rfl (fun hc25 => ?_) (fun hc25 => ?_)
            · skip
              refine W_seq ?_
              refine W_region ?_
              refine L_assign rfl rfl ?_
              refine L_nil ?_
              refine W_ret ?_
              -- return 6 (R26)
              refine res1 rfl (ResOK.tmp rfl) ⟨?_, rfl⟩ (MSub.nil _)
              exfalso
              have hx2 : eqB (GT.dat r3) (GT.dat r1) = true := eqB_true.2 (by simp only [hn1, hr1, hn2, hr2, hn3, hr3])
              simp [hx2, hn1, hn2, hn3] at hc25 <;> omega
            · skip
              refine W_skip ?_
              refine W_seq ?_
              refine W_region ?_
              refine L_assign rfl rfl ?_
              refine L_nil ?_
              refine W_seq ?_
              refine W_region ?_
              refine L_loadW rfl rfl (by first | exact RdC.blk (by repeat (first | exact List.Mem.head _ | apply List.Mem.tail))) (by exact agg41) ?_
              refine L_move rfl rfl ?_
              refine L_callX rfl fn34 rfl (by exact fun w hw => (by have h := heldDesks_spec w r2 1 (by omega) (by omega) (rd_of_tree (by repeat (first | exact List.Mem.head _ | apply List.Mem.tail)) hw.sees); rw [Cv.eq] at h; exact h)) ?_
              refine L_assign rfl rfl ?_
              refine L_nil ?_
              refine W_seq ?_
              refine W_seq ?_
              refine W_region ?_
              refine L_move rfl rfl ?_
              refine L_binV rfl rfl rfl bv_lss ?_
              refine L_nil ?_
              refine W_weaken (l' := [(16, _), (17, _), (123, _)]) (Sub.cons rfl (Sub.cons rfl (Sub.cons rfl (Sub.nil _)))) (MSub.refl _) ?_
              refine W_cond rfl (fun hc29 => ?_) (fun hc29 => ?_)
              · skip
                refine W_seq ?_
                refine W_region ?_
                refine L_assign rfl rfl ?_
                refine L_nil ?_
                refine W_ret ?_
                -- return 7 (R30)
                refine res1 rfl (ResOK.tmp rfl) ⟨?_, rfl⟩ (MSub.nil _)
                exfalso
                simp [hn1, hn2, hn3] at hc29 <;> omega
              · skip
                refine W_skip ?_
                refine W_seq ?_
                refine W_seq ?_
                refine W_region ?_
                refine L_move rfl rfl ?_
                refine L_move rfl rfl ?_
                refine L_binV rfl rfl rfl bv_neq ?_
                refine L_nil ?_
                refine W_weaken (l' := [(126, _)]) (Sub.cons rfl (Sub.nil _)) (MSub.refl _) ?_
                refine W_cond rfl (fun hc31 => ?_) (fun hc31 => ?_)
                · skip
                  refine W_seq ?_
                  refine W_region ?_
                  refine L_assign rfl rfl ?_
                  refine L_nil ?_
                  refine W_ret ?_
                  -- return 8 (R32)
                  refine res1 rfl (ResOK.tmp rfl) ⟨?_, rfl⟩ (MSub.nil _)
                  exfalso
                  simp [hn1, hn2, hn3] at hc31 <;> omega
                · skip
                  refine W_skip ?_
                  refine W_seq ?_
                  refine W_region ?_
                  refine L_assign rfl rfl ?_
                  refine L_nil ?_
                  refine W_ret ?_
                  -- return 9 (R33)
                  refine res1 rfl (ResOK.tmp rfl) ⟨?_, rfl⟩ (MSub.nil _)
                  rfl

end Go.Proofs.SL
