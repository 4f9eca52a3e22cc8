import Derived.Test.YtfcbkchggigoeaaT10
namespace Go.Proofs.SL
open Go

theorem bds_int (xs : List Int) : bds Int xs = 0 := by
  induction xs with
  | nil => rfl
  | cons x xs ih => simp only [bds, ih]; rfl
theorem sessOf_bd (t : T_Desks) (c : Int) (g : TL Int) (h : GT.dat g = sessOfD (GT.dat t) c) : Bk.bulk g ≤ Bk.bulk t := by
  obtain ⟨a1, a2, ⟨a3, c3, e3, x1, y1⟩⟩ := t
  rw [Bd.eq, h]
  show (sessOfD _ c).length + bds Int _ ≤ _
  rw [bds_int]
  unfold sessOfD
  simp only [dat_pair, dat_TL, fm_dat, bulk_pair, bulk_TL]
  have := fmT_len c x1
  split
  · omega
  · simp

theorem fn29 : IsFn Try.prog 29 := ⟨_, Try.func29, by kernel_rfl, rfl⟩
theorem fn30 : IsFn Try.prog 30 := ⟨_, Try.func30, by kernel_rfl, rfl⟩
theorem agg36 : aggOf Try.prog 36 = some 3 := by kernel_rfl
theorem fn16 : IsFn Try.prog 16 := ⟨_, Try.func16, by kernel_rfl, rfl⟩
theorem fn18 : IsFn Try.prog 18 := ⟨_, Try.func18, by kernel_rfl, rfl⟩
theorem fn26 : IsFn Try.prog 26 := ⟨_, Try.func26, by kernel_rfl, rfl⟩
theorem fn27 : IsFn Try.prog 27 := ⟨_, Try.func27, by kernel_rfl, rfl⟩
theorem fn28 : IsFn Try.prog 28 := ⟨_, Try.func28, by kernel_rfl, rfl⟩
theorem fn20 : IsFn Try.prog 20 := ⟨_, Try.func20, by kernel_rfl, rfl⟩
theorem fn31 : IsFn Try.prog 31 := ⟨_, Try.func31, by kernel_rfl, rfl⟩
theorem lawFnExactSessOf (w : World) (t1 : T_Desks) (t2 : Int) (h1 : GT.rd w [] t1) (h2 : GT.rd w [] t2) : Spec Try.prog 6 [.agg (GT.cells t1).toArray, .int .i64 t2].toArray w [] (IsV (.bool true)) := by
  refine Spec.intro Try.func6 rfl Try.ntmps6 rfl ?_
  refine W_seq ?_
  refine W_region ?_
  refine L_box rfl rfl (fun bk2 => ?_)
  refine L_assign rfl rfl ?_
  refine L_nil ?_
  refine W_seq ?_
  refine W_region ?_
  refine L_assign rfl rfl ?_
  refine L_nil ?_
  refine W_seq ?_
  refine W_region ?_
  refine L_loadW rfl rfl (by first | exact RdC.blk (by repeat (first | exact List.Mem.head _ | apply List.Mem.tail))) (by exact agg36) ?_
  refine L_move rfl rfl ?_
  refine L_callX rfl fn16 rfl (by exact fun w hw => szDesks_spec w t1 (1048576) (by omega) (by omega) (rd_carry h1 hw)) ?_
  refine L_assign rfl rfl ?_
  refine L_nil ?_
  refine W_seq ?_
  refine W_seq ?_
  refine W_region ?_
  refine L_move rfl rfl ?_
  refine L_binV rfl rfl rfl bv_lss ?_
  refine L_nil ?_
  refine W_weaken (l' := [(1, _), (2, _), (17, _)]) (Sub.cons rfl (Sub.cons rfl (Sub.cons rfl (Sub.nil _)))) (MSub.refl _) ?_
  refine W_cond rfl (fun hc3 => ?_) (fun hc3 => ?_)
  · skip
    refine W_seq ?_
    refine W_region ?_
    refine L_assign rfl rfl ?_
    refine L_nil ?_
    refine W_ret ?_
    -- return 1 (R4)
    refine res1 rfl (ResOK.tmp rfl) ⟨?_, rfl⟩ (MSub.nil _)
    rfl
  · skip
    have hb1 : (Bk.bulk t1 : Int) ≤ 1048576 := by
      rcases Int.decLt (1048576) (Bk.bulk t1 : Int) with hn | hn
      · omega
      · rw [if_neg (by omega)] at hc3; simp at hc3
    rw [if_pos hb1]
    refine W_skip ?_
    refine W_seq ?_
    refine W_region ?_
    refine L_loadW rfl rfl (by first | exact RdC.blk (by repeat (first | exact List.Mem.head _ | apply List.Mem.tail))) (by exact agg36) ?_
    refine L_callR rfl fn18 rfl (by exact fun w hw => toDesks_spec w _ (rd_carry h1 hw) (by omega)) ?_
    rintro v M1 ⟨n1, hv, hn1, rfl⟩
    subst hv
    simp only [List.cons_append, List.nil_append]
    refine L_move rfl rfl ?_
    refine L_callR rfl fn26 rfl (by exact fun w hw => sSessOf_spec w n1 t2 (rd_of_tree (by repeat (first | exact List.Mem.head _ | apply List.Mem.tail)) hw.sees)) ?_
    rintro v M1 ⟨r1, hv, hr1, rfl⟩
    subst hv
    simp only [List.cons_append, List.nil_append]
    refine L_assign rfl rfl ?_
    refine L_nil ?_
    refine W_seq ?_
    refine W_region ?_
    refine L_loadW rfl rfl (by first | exact RdC.blk (by repeat (first | exact List.Mem.head _ | apply List.Mem.tail))) (by exact agg36) ?_
    refine L_callR rfl fn18 rfl (by exact fun w hw => toDesks_spec w _ (rd_carry h1 hw) (by omega)) ?_
    rintro v M1 ⟨n2, hv, hn2, rfl⟩
    subst hv
    simp only [List.cons_append, List.nil_append]
    refine L_alloc rfl zero41 (fun bk7 => ?_)
    refine L_storeW rfl rfl (by repeat (first | exact Pick.here _ | apply Pick.there)) (by exact agg41) (by rfl) (by first | (simp [Value.oneCell', TL.hdr]; done) | exact fun v hv => GT.one _ v hv) ?_
    refine L_nil ?_
    refine W_seq ?_
    refine W_region ?_
    refine L_loadW rfl rfl (by first | exact RdC.blk (by repeat (first | exact List.Mem.head _ | apply List.Mem.tail))) (by exact agg41) ?_
    refine L_move rfl rfl ?_
    refine L_callR rfl fn27 rfl (by exact fun w hw => iSessOf_spec w n2 t2 (rd_of_tree (by repeat (first | exact List.Mem.head _ | apply List.Mem.tail)) hw.sees)) ?_
    rintro v M1 ⟨r2, hv, hr2, rfl⟩
    subst hv
    simp only [List.cons_append, List.nil_append]
    refine L_assign rfl rfl ?_
    refine L_nil ?_
    refine W_seq ?_
    refine W_seq ?_
    refine W_region ?_
    refine L_move rfl rfl ?_
    refine L_move rfl rfl ?_
    refine L_callX rfl fn28 rfl (by exact fun w hw => eqIntS_spec w r2 r1 (rd_of_tree (by repeat (first | exact List.Mem.head _ | apply List.Mem.tail)) hw.sees) (rd_of_tree (by repeat (first | exact List.Mem.head _ | apply List.Mem.tail)) hw.sees)) ?_
    refine L_not rfl rfl ?_
    refine L_nil ?_
    refine W_weaken (l' := [(1, _), (2, _), (6, _), (7, _), (8, _), (30, _)]) (Sub.cons rfl (Sub.cons rfl (Sub.cons rfl (Sub.cons rfl (Sub.cons rfl (Sub.cons rfl (Sub.nil _))))))) (MSub.refl _) ?_
    refine W_cond rfl (fun hc8 => ?_) (fun hc8 => ?_)
    · skip
      refine W_seq ?_
      refine W_region ?_
      refine L_assign rfl rfl ?_
      refine L_nil ?_
      refine W_ret ?_
      -- return 2 (R9)
      refine res1 rfl (ResOK.tmp rfl) ⟨?_, rfl⟩ (MSub.nil _)
      exfalso
      have hx2 : eqB (GT.dat r2) (GT.dat r1) = true := eqB_true.2 (by simp only [hn1, hr1, hn2, hr2])
      simp [hx2] at hc8 <;> omega
    · skip
      refine W_skip ?_
      refine W_seq ?_
      refine W_seq ?_
      refine W_D0 [35] mix (by kernel_rfl) rfl ?_
      refine D_loadW GC.none (OpV.t rfl) (fun hg => (by first | exact RdC.blk (by repeat (first | exact List.Mem.head _ | apply List.Mem.tail)))) (by exact agg41) ?_
      refine D_loadW GC.none (OpV.t rfl) (fun hg => (by first | exact RdC.blk (by repeat (first | exact List.Mem.head _ | apply List.Mem.tail)))) (by exact agg36) ?_
      refine D_call1R (fun v M => ∃ m : T_Desks, v = .agg (GT.cells m).toArray ∧ GT.dat m = GT.dat t1 ∧ M = [treeH m]) fn18 (OpVs.cons (OpV.t rfl) (OpVs.nil)) (by exact fun w F hF hM => (fun w hw => toDesks_spec w _ (rd_carry h1 hw) (by omega)) w hF) ?_
      refine D_callR [_, _] (FC True (.bool true)) fn20 ⟨⟨_, rfl, fun _ _ h => h⟩, ⟨_, rfl, fun _ _ h => h⟩, trivial⟩ (by
        rintro w F vs hw hM ⟨v1, u1, M1, rfl, ⟨rfl, hx1, _⟩, _, v2, u2, M2, rfl, ⟨m2, rfl, hd2x, rfl⟩, hin, rfl⟩
        obtain rfl := hx1 trivial
        have h := eqDesks_spec w n2 m2 (rd_of_tree (hM _ (by repeat (first | exact List.Mem.head _ | apply List.Mem.tail))) hw.sees) (rd_of_tree (hin _ (List.mem_singleton.2 rfl)) hw.sees)
        rw [eqB_true.2 (hn2.trans hd2x.symm)] at h
        exact h.toFC) ?_
      refine D_not GC.none (OpV.t rfl) ?_
      refine DV_nil ?_
      refine Give_is rfl rfl ?_
      refine Give_drop rfl ?_
      refine Give_drop rfl ?_
      refine Give_drop rfl ?_
      refine Give_drop rfl ?_
      refine Give_nil ?_
      refine W_weaken (l' := [(1, _), (2, _), (6, _), (7, _), (8, _), (35, _)]) (Sub.cons rfl (Sub.cons rfl (Sub.cons rfl (Sub.cons rfl (Sub.cons rfl (Sub.cons rfl (Sub.nil _))))))) (MSub.refl _) ?_
      refine W_condF rfl ?_
      refine W_skip ?_
      refine W_seq ?_
      refine W_region ?_
      refine L_assign rfl rfl ?_
      refine L_nil ?_
      refine W_seq ?_
      have hc_n2 : Mv.cnt n2 ≤ 1000000000000 := cntv_le n2 rfl (by rw [bulk_dat hn2]; omega)
      refine W_region ?_
      refine L_loadW rfl rfl (by first | exact RdC.blk (by repeat (first | exact List.Mem.head _ | apply List.Mem.tail))) (by exact agg41) ?_
      refine L_move rfl rfl ?_
      refine L_call1 (h := treeH n2) rfl fn29 rfl (by repeat (first | exact Pick.here _ | apply Pick.there)) (by exact fun w hw => markDesks_spec w n2 1 (by omega) (by omega)) ?_
      rintro v M1 ⟨hv, rfl⟩
      subst hv
      simp only [List.cons_append, List.nil_append]
      refine L_assign rfl rfl ?_
      refine L_nil ?_
      refine W_seq ?_
      refine W_seq ?_
      refine W_D0 [46] mix (by kernel_rfl) rfl ?_
      refine D_move GC.none (OpV.t rfl) ?_
      refine D_bin GC.none (OpV.t rfl) OpV.c (fun hg => bv_lss) ?_
      refine D_move GC.none (OpV.t rfl) ?_
      refine D_move (GC.some rfl rfl) (OpV.t rfl) ?_
      refine D_move (GC.some rfl rfl) (OpV.t rfl) ?_
      refine D_callX (GC.some rfl rfl) fn28 (OpVs.cons (OpV.s rfl) (OpVs.cons (OpV.s rfl) (OpVs.nil))) (by exact fun hg w F hF hM => eqIntS_spec w r2 r1 (rd_of_tree (hM _ (by repeat (first | exact List.Mem.head _ | apply List.Mem.tail))) hF.sees) (rd_of_tree (hM _ (by repeat (first | exact List.Mem.head _ | apply List.Mem.tail))) hF.sees)) ?_
      refine D_not (GC.some rfl rfl) (OpV.s rfl) ?_
      refine D_or (cy := _) GC.none (OpV.t rfl) (OpV.s rfl) (fun h hb => ⟨h, hb⟩) ?_
      refine DV_nil ?_
      refine Give_is rfl rfl ?_
      refine Give_drop rfl ?_
      refine Give_drop rfl ?_
      refine Give_drop rfl ?_
      refine Give_drop rfl ?_
      refine Give_drop rfl ?_
      refine Give_drop rfl ?_
      refine Give_drop rfl ?_
      refine Give_nil ?_
      refine W_weaken (l' := [(1, _), (2, _), (6, _), (8, _), (46, _)]) (Sub.cons rfl (Sub.cons rfl (Sub.cons rfl (Sub.cons rfl (Sub.cons rfl (Sub.nil _)))))) (MSub.refl _) ?_
      refine W_cond rfl (fun hc14 => ?_) (fun hc14 => ?_)
      · skip
        refine W_seq ?_
        refine W_region ?_
        refine L_assign rfl rfl ?_
        refine L_nil ?_
        refine W_ret ?_
        -- return 3 (R15)
        refine res1 rfl (ResOK.tmp rfl) ⟨?_, rfl⟩ (MSub.nil _)
        exfalso
        have hx5 : eqB (GT.dat r2) (GT.dat r1) = true := eqB_true.2 (by simp only [hn1, hr1, hn2, hr2])
        simp [hx5] at hc14 <;> omega
      · skip
        refine W_skip ?_
        refine W_seq ?_
        refine W_region ?_
        refine L_assign rfl rfl ?_
        refine L_nil ?_
        refine W_seq ?_
        have hc_r2 : Mk.cnt r2 ≤ 1000000000000 := cntk_le r2 rfl (by have := sessOf_bd _ _ _ hr2; rw [bulk_dat hn2] at this; omega)
        refine W_region ?_
        refine L_move rfl rfl ?_
        refine L_move rfl rfl ?_
        refine L_call1 (h := treeH r2) rfl fn30 rfl (by repeat (first | exact Pick.here _ | apply Pick.there)) (by exact fun w hw => markIntS_spec w r2 1 (by omega) (by omega)) ?_
        rintro v M1 ⟨hv, rfl⟩
        subst hv
        simp only [List.cons_append, List.nil_append]
        refine L_assign rfl rfl ?_
        refine L_nil ?_
        refine W_seq ?_
        refine W_region ?_
        refine L_assign rfl rfl ?_
        refine L_nil ?_
        refine W_seq ?_
        refine W_region ?_
        refine L_move rfl rfl ?_
        refine L_move rfl rfl ?_
        refine L_callX rfl fn31 rfl (by exact fun w hw => (by have h := heldIntS_spec w r2 1 (by omega) (by omega) (rd_of_tree (by repeat (first | exact List.Mem.head _ | apply List.Mem.tail)) hw.sees); rw [hdr_mk] at h; exact h)) ?_
        refine L_assign rfl rfl ?_
        refine L_nil ?_
        refine W_seq ?_
        refine W_seq ?_
        refine W_region ?_
        refine L_move rfl rfl ?_
        refine L_binV rfl rfl rfl bv_lss ?_
        refine L_nil ?_
        refine W_weaken (l' := [(1, _), (2, _), (6, _), (8, _), (10, _), (11, _), (54, _)]) (Sub.cons rfl (Sub.cons rfl (Sub.cons rfl (Sub.cons rfl (Sub.cons rfl (Sub.cons rfl (Sub.cons rfl (Sub.nil _)))))))) (MSub.refl _) ?_
        refine W_cond rfl (fun hc20 => ?_) (fun hc20 => ?_)
        · skip
          refine W_seq ?_
          refine W_region ?_
          refine L_assign rfl rfl ?_
          refine L_nil ?_
          refine W_ret ?_
          -- return 4 (R21)
          refine res1 rfl (ResOK.tmp rfl) ⟨?_, rfl⟩ (MSub.nil _)
          exfalso
          simp [] at hc20 <;> omega
        · skip
          refine W_skip ?_
          refine W_seq ?_
          refine W_seq ?_
          refine W_region ?_
          refine L_move rfl rfl ?_
          refine L_move rfl rfl ?_
          refine L_binV rfl rfl rfl bv_neq ?_
          refine L_nil ?_
          refine W_weaken (l' := [(1, _), (2, _), (6, _), (8, _), (10, _), (57, _)]) (Sub.cons rfl (Sub.cons rfl (Sub.cons rfl (Sub.cons rfl (Sub.cons rfl (Sub.cons rfl (Sub.nil _))))))) (MSub.refl _) ?_
          refine W_cond rfl (fun hc22 => ?_) (fun hc22 => ?_)
          · skip
            refine W_seq ?_
            refine W_region ?_
            refine L_assign rfl rfl ?_
            refine L_nil ?_
            refine W_ret ?_
            -- return 5 (R23)
            refine res1 rfl (ResOK.tmp rfl) ⟨?_, rfl⟩ (MSub.nil _)
            exfalso
            simp [] at hc22 <;> omega
          · skip
            refine W_skip ?_
            refine W_seq ?_
            refine W_region ?_
            refine L_loadW rfl rfl (by first | exact RdC.blk (by repeat (first | exact List.Mem.head _ | apply List.Mem.tail))) (by exact agg36) ?_
            refine L_callR rfl fn18 rfl (by exact fun w hw => toDesks_spec w _ (rd_carry h1 hw) (by omega)) ?_
            rintro v M1 ⟨n3, hv, hn3, rfl⟩
            subst hv
            simp only [List.cons_append, List.nil_append]
            refine L_move rfl rfl ?_
            refine L_callR rfl fn27 rfl (by exact fun w hw => iSessOf_spec w n3 t2 (rd_of_tree (by repeat (first | exact List.Mem.head _ | apply List.Mem.tail)) hw.sees)) ?_
            rintro v M1 ⟨r3, hv, hr3, rfl⟩
            subst hv
            simp only [List.cons_append, List.nil_append]
            refine L_assign rfl rfl ?_
            refine L_nil ?_
            refine W_seq ?_
            refine W_seq ?_
            refine W_region ?_
            refine L_move rfl rfl ?_
            refine L_move rfl rfl ?_
            refine L_callX rfl fn28 rfl (by exact fun w hw => eqIntS_spec w r3 r1 (rd_of_tree (by repeat (first | exact List.Mem.head _ | apply List.Mem.tail)) hw.sees) (rd_of_tree (by repeat (first | exact List.Mem.head _ | apply List.Mem.tail)) hw.sees)) ?_
            refine L_not rfl rfl ?_
            refine L_nil ?_
            refine W_weaken (l' := [(8, _), (10, _), (65, _)]) (Sub.cons rfl (Sub.cons rfl (Sub.cons rfl (Sub.nil _)))) (MSub.refl _) ?_
            refine W_cond rfl (fun hc25 => ?_) (fun hc25 => ?_)
            · skip
              refine W_seq ?_
              refine W_region ?_
              refine L_assign rfl rfl ?_
              refine L_nil ?_
              refine W_ret ?_
              -- return 6 (R26)
              refine res1 rfl (ResOK.tmp rfl) ⟨?_, rfl⟩ (MSub.nil _)
              exfalso
              have hx2 : eqB (GT.dat r3) (GT.dat r1) = true := eqB_true.2 (by simp only [hn1, hr1, hn2, hr2, hn3, hr3])
              simp [hx2] at hc25 <;> omega
            · skip
              refine W_skip ?_
              refine W_seq ?_
              refine W_region ?_
              refine L_assign rfl rfl ?_
              refine L_nil ?_
              refine W_seq ?_
              refine W_region ?_
              refine L_move rfl rfl ?_
              refine L_move rfl rfl ?_
              refine L_callX rfl fn31 rfl (by exact fun w hw => (by have h := heldIntS_spec w r2 1 (by omega) (by omega) (rd_of_tree (by repeat (first | exact List.Mem.head _ | apply List.Mem.tail)) hw.sees); rw [hdr_mk] at h; exact h)) ?_
              refine L_assign rfl rfl ?_
              refine L_nil ?_
              refine W_seq ?_
              refine W_seq ?_
              refine W_region ?_
              refine L_move rfl rfl ?_
              refine L_binV rfl rfl rfl bv_lss ?_
              refine L_nil ?_
              refine W_weaken (l' := [(10, _), (11, _), (70, _)]) (Sub.cons rfl (Sub.cons rfl (Sub.cons rfl (Sub.nil _)))) (MSub.refl _) ?_
              refine W_cond rfl (fun hc29 => ?_) (fun hc29 => ?_)
              · skip
                refine W_seq ?_
                refine W_region ?_
                refine L_assign rfl rfl ?_
                refine L_nil ?_
                refine W_ret ?_
                -- return 7 (R30)
                refine res1 rfl (ResOK.tmp rfl) ⟨?_, rfl⟩ (MSub.nil _)
                exfalso
                simp [] at hc29 <;> omega
              · skip
                refine W_skip ?_
                refine W_seq ?_
                refine W_seq ?_
                refine W_region ?_
                refine L_move rfl rfl ?_
                refine L_move rfl rfl ?_
                refine L_binV rfl rfl rfl bv_neq ?_
                refine L_nil ?_
                refine W_weaken (l' := [(73, _)]) (Sub.cons rfl (Sub.nil _)) (MSub.refl _) ?_
                refine W_cond rfl (fun hc31 => ?_) (fun hc31 => ?_)
                · skip
                  refine W_seq ?_
                  refine W_region ?_
                  refine L_assign rfl rfl ?_
                  refine L_nil ?_
                  refine W_ret ?_
                  -- return 8 (R32)
                  refine res1 rfl (ResOK.tmp rfl) ⟨?_, rfl⟩ (MSub.nil _)
                  exfalso
                  simp [] at hc31 <;> omega
                · skip
                  refine W_skip ?_
                  refine W_seq ?_
                  refine W_region ?_
                  refine L_assign rfl rfl ?_
                  refine L_nil ?_
                  refine W_ret ?_
                  -- return 9 (R33)
                  refine res1 rfl (ResOK.tmp rfl) ⟨?_, rfl⟩ (MSub.nil _)
                  rfl

end Go.Proofs.SL
