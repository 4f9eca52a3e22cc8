/- The law FnExactENodeFall. -/
import Derived.Test.YthebgoognabinaaPN2
import Derived.Test.YthebgoognabinaaFEd
namespace Go.Proofs.SL
open Go

theorem bd_inst (x : D_Inst) : x.2.2.2.2.1.2.2.2.2.2.2.2.length + x.2.2.2.2.2.2.1.length ≤ Bd.bd (τ := T_Inst) x := by
  show _ ≤ ((0 + 0) + (0 + (0 + (0 + ((0 + (0 + (0 + (x.2.2.2.2.1.2.2.2.1.size + (x.2.2.2.2.1.2.2.2.2.1.size + (x.2.2.2.2.1.2.2.2.2.2.1.size + (0 + (x.2.2.2.2.1.2.2.2.2.2.2.2.length + bds ByteArray x.2.2.2.2.1.2.2.2.2.2.2.2)))))))) + (0 + ((x.2.2.2.2.2.2.1.length + bds T_Id x.2.2.2.2.2.2.1) + 0)))))))
  omega
theorem bd_lead (x : D_Lead) : x.2.2.2.2.1.length + x.2.2.2.2.2.1.length ≤ Bd.bd (τ := T_Lead) x := by
  show _ ≤ ((0 + 0) + (0 + (0 + (0 + ((x.2.2.2.2.1.length + bds T_Id x.2.2.2.2.1) + ((x.2.2.2.2.2.1.length + bds Int x.2.2.2.2.2.1) + 0))))))
  omega
theorem bd_node (d : D_ENode) : Bd.bd (τ := T_ENode) d = (d.2.2.1.length + bds T_Inst d.2.2.1) + (d.2.2.2.length + bds T_Lead d.2.2.2) := by
  show 0 + (0 + ((d.2.2.1.length + bds T_Inst d.2.2.1) + (d.2.2.2.length + bds T_Lead d.2.2.2))) = _
  omega
theorem small_node {d : D_ENode} (h : Bd.bd (τ := T_ENode) d ≤ 1048576) : smallN d := by
  rw [bd_node] at h
  refine ⟨by omega, fun x hx => ?_, by omega, fun x hx => ?_⟩
  · have h1 := bds_mem (τ := T_Inst) hx
    have h2 := bd_inst x
    exact ⟨by omega, by omega⟩
  · have h1 := bds_mem (τ := T_Lead) hx
    have h2 := bd_lead x
    exact ⟨by omega, by omega⟩
theorem fall_bd (t : T_ENode) (g : T_ENode) (h : GT.dat g = (fallD (GT.dat t)).1) : Bk.bulk g ≤ Bk.bulk t := by
  rw [Bd.eq, Bd.eq, h]
  generalize GT.dat t = d
  unfold fallD
  split
  · rw [bd_node, bd_node]
    show _ + (0 + 0) ≤ _
    dsimp only
    omega
  · rw [bd_node]
    show (0 + 0) + (0 + 0) ≤ _
    omega

theorem fn80 : IsFn Try.prog 80 := ⟨_, Try.func80, by kernel_rfl, rfl⟩
theorem agg112 : aggOf Try.prog 112 = some 4 := by kernel_rfl
theorem fn75 : IsFn Try.prog 75 := ⟨_, Try.func75, by kernel_rfl, rfl⟩
theorem fn77 : IsFn Try.prog 77 := ⟨_, Try.func77, by kernel_rfl, rfl⟩
theorem fn76 : IsFn Try.prog 76 := ⟨_, Try.func76, by kernel_rfl, rfl⟩
theorem fn78 : IsFn Try.prog 78 := ⟨_, Try.func78, by kernel_rfl, rfl⟩
theorem fn79 : IsFn Try.prog 79 := ⟨_, Try.func79, by kernel_rfl, rfl⟩
theorem fn81 : IsFn Try.prog 81 := ⟨_, Try.func81, by kernel_rfl, rfl⟩
theorem sENodeFall_spec (w : World) (a0 : T_ENode) (h0 : GT.rd w [] a0) (ho0 : Ok.ok (GT.dat a0)) (hs0 : Bd.bd (τ := T_ENode) (GT.dat a0) ≤ 1048576) : Spec Try.prog 76 [.agg (GT.cells a0).toArray].toArray w [] (fun v M => ∃ (x0 : T_ENode), v = .tuple #[.agg (GT.cells x0).toArray, .bool ((fallD (GT.dat a0)).2)] ∧ GT.dat x0 = (fallD (GT.dat a0)).1 ∧ M = [treeH x0]) := (s_ENodeFall_walk w a0 h0 _ (s_ENodeFall_eq ho0 (small_node hs0))).to fun v M ⟨x0, x1, hv, hd, hM⟩ => by
  obtain rfl : x1 = (fallD (GT.dat a0)).2 := congrArg (fun z => z.2) hd
  exact ⟨x0, hv, congrArg (fun z => z.1) hd, hM⟩
theorem iENodeFall_spec (w : World) (a0 : T_ENode) (h0 : GT.rd w [] a0) (ho0 : Ok.ok (GT.dat a0)) (hs0 : Bd.bd (τ := T_ENode) (GT.dat a0) ≤ 1048576) : Spec Try.prog 78 [.agg (GT.cells a0).toArray].toArray w [] (fun v M => ∃ (x0 : T_ENode), v = .tuple #[.agg (GT.cells x0).toArray, .bool ((fallD (GT.dat a0)).2)] ∧ GT.dat x0 = (fallD (GT.dat a0)).1 ∧ M = [treeH x0]) := (i_ENodeFall_walk w a0 h0 _ (i_ENodeFall_eq ho0 (small_node hs0))).to fun v M ⟨x0, x1, hv, hd, hM⟩ => by
  obtain rfl : x1 = (fallD (GT.dat a0)).2 := congrArg (fun z => z.2) hd
  exact ⟨x0, hv, congrArg (fun z => z.1) hd, hM⟩
theorem lawFnExactENodeFall (w : World) (t1 : T_ENode) (h1 : GT.rd w [] t1) (ho1 : Ok.ok (GT.dat t1)) : Spec Try.prog 12 [.agg (GT.cells t1).toArray].toArray w [] (IsV (.bool true)) := by
  refine Spec.intro Try.func12 rfl Try.ntmps12 rfl ?_
  refine W_seq ?_
  refine W_region ?_
  refine L_box rfl rfl (fun bk1 => ?_)
  refine L_assign rfl rfl ?_
  refine L_nil ?_
  refine W_seq ?_
  refine W_region ?_
  refine L_assign rfl rfl ?_
  refine L_nil ?_
  refine W_seq ?_
  refine W_region ?_
  refine L_loadW rfl rfl (by first | exact RdC.blk (by repeat (first | exact List.Mem.head _ | apply List.Mem.tail))) (by exact agg112) ?_
  refine L_move rfl rfl ?_
  refine L_callX rfl fn75 rfl (by exact fun w hw => szENode_spec w t1 (1048576) (by omega) (by omega) (rd_carry h1 hw) ho1) ?_
  refine L_assign rfl rfl ?_
  refine L_nil ?_
  refine W_seq ?_
  refine W_seq ?_
  refine W_region ?_
  refine L_move rfl rfl ?_
  refine L_binV rfl rfl rfl bv_lss ?_
  refine L_nil ?_
  refine W_weaken (l' := [(1, _), (18, _)]) (Sub.cons rfl (Sub.cons rfl (Sub.nil _))) (MSub.refl _) ?_
  refine W_cond rfl (fun hc3 => ?_) (fun hc3 => ?_)
  · skip
    refine W_seq ?_
    refine W_region ?_
    refine L_assign rfl rfl ?_
    refine L_nil ?_
    refine W_ret ?_
    -- return 1 (R4)
    refine res1 rfl (ResOK.tmp rfl) ⟨?_, rfl⟩ (MSub.nil _)
    rfl
  · skip
    have hb1 : (Bk.bulk t1 : Int) ≤ 1048576 := by
      rcases Int.decLt (1048576) (Bk.bulk t1 : Int) with hn | hn
      · omega
      · rw [if_neg (by omega)] at hc3; simp at hc3
    rw [if_pos hb1]
    refine W_skip ?_
    refine W_seq ?_
    refine W_region ?_
    refine L_loadW rfl rfl (by first | exact RdC.blk (by repeat (first | exact List.Mem.head _ | apply List.Mem.tail))) (by exact agg112) ?_
    refine L_callR rfl fn77 rfl (by exact fun w hw => toENode_spec w _ (rd_carry h1 hw) (by omega)) ?_
    rintro v M1 ⟨n1, hv, hn1, rfl⟩
    subst hv
    simp only [List.cons_append, List.nil_append]
    refine L_callR rfl fn76 rfl (by exact fun w hw => sENodeFall_spec w n1 (rd_of_tree (by repeat (first | exact List.Mem.head _ | apply List.Mem.tail)) hw.sees) (by rw [hn1]; exact ho1) (by first | (rw [hn1, ← Bd.eq]; omega) | (rw [← Bd.eq]; omega))) ?_
    rintro v M1 ⟨r1_0, hv, hr1_0, rfl⟩
    subst hv
    simp only [List.cons_append, List.nil_append]
    refine L_move rfl rfl ?_
    refine L_extract rfl rfl rfl ?_
    refine L_extract rfl rfl rfl ?_
    refine L_alloc rfl zero117 (fun bk4 => ?_)
    refine L_storeW rfl rfl (by repeat (first | exact Pick.here _ | apply Pick.there)) (by exact agg117) (by rfl) (by first | (simp [Value.oneCell', TL.hdr]; done) | (simp [Value.oneCell', TL.hdr, Value.cells]; done) | exact fun v hv => GT.one _ v hv) ?_
    refine L_assign rfl rfl ?_
    refine L_nil ?_
    refine W_seq ?_
    refine W_region ?_
    refine L_loadW rfl rfl (by first | exact RdC.blk (by repeat (first | exact List.Mem.head _ | apply List.Mem.tail))) (by exact agg112) ?_
    refine L_callR rfl fn77 rfl (by exact fun w hw => toENode_spec w _ (rd_carry h1 hw) (by omega)) ?_
    rintro v M1 ⟨n2, hv, hn2, rfl⟩
    subst hv
    simp only [List.cons_append, List.nil_append]
    refine L_alloc rfl zero117 (fun bk6 => ?_)
    refine L_storeW rfl rfl (by repeat (first | exact Pick.here _ | apply Pick.there)) (by exact agg117) (by rfl) (by first | (simp [Value.oneCell', TL.hdr]; done) | (simp [Value.oneCell', TL.hdr, Value.cells]; done) | exact fun v hv => GT.one _ v hv) ?_
    refine L_nil ?_
    refine W_seq ?_
    refine W_region ?_
    refine L_loadW rfl rfl (by first | exact RdC.blk (by repeat (first | exact List.Mem.head _ | apply List.Mem.tail))) (by exact agg117) ?_
    refine L_callR rfl fn78 rfl (by exact fun w hw => iENodeFall_spec w n2 (rd_of_tree (by repeat (first | exact List.Mem.head _ | apply List.Mem.tail)) hw.sees) (by rw [hn2]; exact ho1) (by first | (rw [hn2, ← Bd.eq]; omega) | (rw [← Bd.eq]; omega))) ?_
    rintro v M1 ⟨r2_0, hv, hr2_0, rfl⟩
    subst hv
    simp only [List.cons_append, List.nil_append]
    refine L_move rfl rfl ?_
    refine L_extract rfl rfl rfl ?_
    refine L_extract rfl rfl rfl ?_
    refine L_alloc rfl zero117 (fun bk7 => ?_)
    refine L_storeW rfl rfl (by repeat (first | exact Pick.here _ | apply Pick.there)) (by exact agg117) (by rfl) (by first | (simp [Value.oneCell', TL.hdr]; done) | (simp [Value.oneCell', TL.hdr, Value.cells]; done) | exact fun v hv => GT.one _ v hv) ?_
    refine L_assign rfl rfl ?_
    refine L_nil ?_
    refine W_seq ?_
    refine W_seq ?_
    refine W_D0 [40] mix (by kernel_rfl) rfl ?_
    refine D_loadW GC.none (OpV.t rfl) (fun hg => (by first | exact RdC.blk (by repeat (first | exact List.Mem.head _ | apply List.Mem.tail)))) (by exact agg117) ?_
    refine D_loadW GC.none (OpV.t rfl) (fun hg => (by first | exact RdC.blk (by repeat (first | exact List.Mem.head _ | apply List.Mem.tail)))) (by exact agg117) ?_
    refine D_callX GC.none fn79 (OpVs.cons (OpV.t rfl) (OpVs.cons (OpV.t rfl) (OpVs.nil))) (by exact fun hg w F hF hM => eqENode_spec w r2_0 r1_0 (rd_of_tree (hM _ (by repeat (first | exact List.Mem.head _ | apply List.Mem.tail))) hF.sees) (rd_of_tree (hM _ (by repeat (first | exact List.Mem.head _ | apply List.Mem.tail))) hF.sees)) ?_
    refine D_not GC.none (OpV.t rfl) ?_
    refine D_move GC.none (OpV.t rfl) ?_
    refine D_move (GC.some rfl rfl) (OpV.t rfl) ?_
    refine D_move (GC.some rfl rfl) (OpV.t rfl) ?_
    refine D_bin (GC.some rfl rfl) (OpV.s rfl) (OpV.s rfl) (fun hg => (bv_bneq und4)) ?_
    refine D_or (cy := _) GC.none (OpV.t rfl) (OpV.s rfl) (fun h hb => ⟨h, hb⟩) ?_
    refine DV_nil ?_
    refine Give_is rfl rfl ?_
    refine Give_drop rfl ?_
    refine Give_drop rfl ?_
    refine Give_drop rfl ?_
    refine Give_drop rfl ?_
    refine Give_drop rfl ?_
    refine Give_drop rfl ?_
    refine Give_drop rfl ?_
    refine Give_drop rfl ?_
    refine Give_nil ?_
    refine W_weaken (l' := [(1, _), (4, _), (5, _), (6, _), (7, _), (8, _), (40, _)]) (Sub.cons rfl (Sub.cons rfl (Sub.cons rfl (Sub.cons rfl (Sub.cons rfl (Sub.cons rfl (Sub.cons rfl (Sub.nil _)))))))) (MSub.refl _) ?_
    refine W_cond rfl (fun hc8 => ?_) (fun hc8 => ?_)
    · skip
      refine W_seq ?_
      refine W_region ?_
      refine L_assign rfl rfl ?_
      refine L_nil ?_
      refine W_ret ?_
      -- return 2 (R9)
      refine res1 rfl (ResOK.tmp rfl) ⟨?_, rfl⟩ (MSub.nil _)
      exfalso
      have hx2 : eqB (GT.dat r2_0) (GT.dat r1_0) = true := eqB_true.2 (by simp only [hn1, hr1_0, hn2, hr2_0])
      simp [hx2, hn1, hn2] at hc8 <;> omega
    · skip
      refine W_skip ?_
      refine W_seq ?_
      refine W_seq ?_
      refine W_D0 [45] mix (by kernel_rfl) rfl ?_
      refine D_loadW GC.none (OpV.t rfl) (fun hg => (by first | exact RdC.blk (by repeat (first | exact List.Mem.head _ | apply List.Mem.tail)))) (by exact agg117) ?_
      refine D_loadW GC.none (OpV.t rfl) (fun hg => (by first | exact RdC.blk (by repeat (first | exact List.Mem.head _ | apply List.Mem.tail)))) (by exact agg112) ?_
      refine D_call1R (fun v M => ∃ m : T_ENode, v = .agg (GT.cells m).toArray ∧ GT.dat m = GT.dat t1 ∧ M = [treeH m]) fn77 (OpVs.cons (OpV.t rfl) (OpVs.nil)) (by exact fun w F hF hM => (fun w hw => toENode_spec w _ (rd_carry h1 hw) (by omega)) w hF) ?_
      refine D_callR [_, _] (FC True (.bool true)) fn79 ⟨⟨_, rfl, fun _ _ h => h⟩, ⟨_, rfl, fun _ _ h => h⟩, trivial⟩ (by
        rintro w F vs hw hM ⟨v1, u1, M1, rfl, ⟨rfl, hx1, _⟩, _, v2, u2, M2, rfl, ⟨m2, rfl, hd2x, rfl⟩, hin, rfl⟩
        obtain rfl := hx1 trivial
        have h := eqENode_spec w n2 m2 (rd_of_tree (hM _ (by repeat (first | exact List.Mem.head _ | apply List.Mem.tail))) hw.sees) (rd_of_tree (hin _ (List.mem_singleton.2 rfl)) hw.sees)
        rw [eqB_true.2 (hn2.trans hd2x.symm)] at h
        exact h.toFC) ?_
      refine D_not GC.none (OpV.t rfl) ?_
      refine DV_nil ?_
      refine Give_is rfl rfl ?_
      refine Give_drop rfl ?_
      refine Give_drop rfl ?_
      refine Give_drop rfl ?_
      refine Give_drop rfl ?_
      refine Give_nil ?_
      refine W_weaken (l' := [(1, _), (4, _), (5, _), (6, _), (7, _), (8, _), (45, _)]) (Sub.cons rfl (Sub.cons rfl (Sub.cons rfl (Sub.cons rfl (Sub.cons rfl (Sub.cons rfl (Sub.cons rfl (Sub.nil _)))))))) (MSub.refl _) ?_
      refine W_condF rfl ?_
      refine W_skip ?_
      refine W_seq ?_
      refine W_region ?_
      refine L_assign rfl rfl ?_
      refine L_nil ?_
      refine W_seq ?_
      have hc_n2 : Mv.cnt n2 ≤ 1000000000000 := cntv_le n2 rfl (by rw [bulk_dat hn2]; omega)
      refine W_region ?_
      refine L_loadW rfl rfl (by first | exact RdC.blk (by repeat (first | exact List.Mem.head _ | apply List.Mem.tail))) (by exact agg117) ?_
      refine L_move rfl rfl ?_
      refine L_call1 (h := treeH n2) rfl fn80 rfl (by repeat (first | exact Pick.here _ | apply Pick.there)) (by exact fun w hw => markENode_spec w n2 1 (by omega) (by omega)) ?_
      rintro v M1 ⟨hv, rfl⟩
      subst hv
      simp only [List.cons_append, List.nil_append]
      refine L_assign rfl rfl ?_
      refine L_nil ?_
      refine W_seq ?_
      refine W_seq ?_
      refine W_D0 [61] mix (by kernel_rfl) rfl ?_
      refine D_move GC.none (OpV.t rfl) ?_
      refine D_bin GC.none (OpV.t rfl) OpV.c (fun hg => bv_lss) ?_
      refine D_move GC.none (OpV.t rfl) ?_
      refine D_loadW (GC.some rfl rfl) (OpV.t rfl) (fun hg => (by first | exact RdC.blk (by repeat (first | exact List.Mem.head _ | apply List.Mem.tail)))) (by exact agg117) ?_
      refine D_loadW (GC.some rfl rfl) (OpV.t rfl) (fun hg => (by first | exact RdC.blk (by repeat (first | exact List.Mem.head _ | apply List.Mem.tail)))) (by exact agg117) ?_
      refine D_callX (GC.some rfl rfl) fn79 (OpVs.cons (OpV.s rfl) (OpVs.cons (OpV.s rfl) (OpVs.nil))) (by exact fun hg w F hF hM => eqENode_spec w r2_0 r1_0 (rd_of_tree (hM _ (by repeat (first | exact List.Mem.head _ | apply List.Mem.tail))) hF.sees) (rd_of_tree (hM _ (by repeat (first | exact List.Mem.head _ | apply List.Mem.tail))) hF.sees)) ?_
      refine D_not (GC.some rfl rfl) (OpV.s rfl) ?_
      refine D_or (cy := _) GC.none (OpV.t rfl) (OpV.s rfl) (fun h hb => ⟨h, hb⟩) ?_
      refine D_move GC.none (OpV.t rfl) ?_
      refine D_move (GC.some rfl rfl) (OpV.t rfl) ?_
      refine D_move (GC.some rfl rfl) (OpV.t rfl) ?_
      refine D_bin (GC.some rfl rfl) (OpV.s rfl) (OpV.s rfl) (fun hg => (bv_bneq und4)) ?_
      refine D_or (cy := _) GC.none (OpV.t rfl) (OpV.s rfl) (fun h hb => ⟨h, hb⟩) ?_
      refine DV_nil ?_
      refine Give_is rfl rfl ?_
      refine Give_drop rfl ?_
      refine Give_drop rfl ?_
      refine Give_drop rfl ?_
      refine Give_drop rfl ?_
      refine Give_drop rfl ?_
      refine Give_drop rfl ?_
      refine Give_drop rfl ?_
      refine Give_drop rfl ?_
      refine Give_drop rfl ?_
      refine Give_drop rfl ?_
      refine Give_drop rfl ?_
      refine Give_drop rfl ?_
      refine Give_nil ?_
      refine W_weaken (l' := [(1, _), (4, _), (5, _), (7, _), (61, _)]) (Sub.cons rfl (Sub.cons rfl (Sub.cons rfl (Sub.cons rfl (Sub.cons rfl (Sub.nil _)))))) (MSub.refl _) ?_
      refine W_cond rfl (fun hc14 => ?_) (fun hc14 => ?_)
      · skip
        refine W_seq ?_
        refine W_region ?_
        refine L_assign rfl rfl ?_
        refine L_nil ?_
        refine W_ret ?_
        -- return 3 (R15)
        refine res1 rfl (ResOK.tmp rfl) ⟨?_, rfl⟩ (MSub.nil _)
        exfalso
        have hx5 : eqB (GT.dat r2_0) (GT.dat r1_0) = true := eqB_true.2 (by simp only [hn1, hr1_0, hn2, hr2_0])
        simp [hx5, hn1, hn2] at hc14 <;> omega
      · skip
        refine W_skip ?_
        refine W_seq ?_
        refine W_region ?_
        refine L_assign rfl rfl ?_
        refine L_nil ?_
        refine W_seq ?_
        have hc_r2_0 : Mv.cnt r2_0 ≤ 1000000000000 := cntv_le r2_0 rfl (by have := fall_bd _ _ hr2_0; rw [bulk_dat hn2] at this; omega)
        refine W_region ?_
        refine L_loadW rfl rfl (by first | exact RdC.blk (by repeat (first | exact List.Mem.head _ | apply List.Mem.tail))) (by exact agg117) ?_
        refine L_move rfl rfl ?_
        refine L_call1 (h := treeH r2_0) rfl fn80 rfl (by repeat (first | exact Pick.here _ | apply Pick.there)) (by exact fun w hw => markENode_spec w r2_0 1 (by omega) (by omega)) ?_
        rintro v M1 ⟨hv, rfl⟩
        subst hv
        simp only [List.cons_append, List.nil_append]
        refine L_assign rfl rfl ?_
        refine L_nil ?_
        refine W_seq ?_
        refine W_region ?_
        refine L_assign rfl rfl ?_
        refine L_nil ?_
        refine W_seq ?_
        refine W_region ?_
        refine L_loadW rfl rfl (by first | exact RdC.blk (by repeat (first | exact List.Mem.head _ | apply List.Mem.tail))) (by exact agg117) ?_
        refine L_move rfl rfl ?_
        refine L_callX rfl fn81 rfl (by exact fun w hw => (by have h := heldENode_spec w r2_0 1 (by omega) (by omega) (rd_of_tree (by repeat (first | exact List.Mem.head _ | apply List.Mem.tail)) hw.sees); rw [Cv.eq] at h; exact h)) ?_
        refine L_assign rfl rfl ?_
        refine L_nil ?_
        refine W_seq ?_
        refine W_seq ?_
        refine W_region ?_
        refine L_move rfl rfl ?_
        refine L_binV rfl rfl rfl bv_lss ?_
        refine L_nil ?_
        refine W_weaken (l' := [(1, _), (4, _), (5, _), (7, _), (10, _), (11, _), (69, _)]) (Sub.cons rfl (Sub.cons rfl (Sub.cons rfl (Sub.cons rfl (Sub.cons rfl (Sub.cons rfl (Sub.cons rfl (Sub.nil _)))))))) (MSub.refl _) ?_
        refine W_cond rfl (fun hc20 => ?_) (fun hc20 => ?_)
        · skip
          refine W_seq ?_
          refine W_region ?_
          refine L_assign rfl rfl ?_
          refine L_nil ?_
          refine W_ret ?_
          -- return 4 (R21)
          refine res1 rfl (ResOK.tmp rfl) ⟨?_, rfl⟩ (MSub.nil _)
          exfalso
          simp [hn1, hn2] at hc20 <;> omega
        · skip
          refine W_skip ?_
          refine W_seq ?_
          refine W_seq ?_
          refine W_region ?_
          refine L_move rfl rfl ?_
          refine L_move rfl rfl ?_
          refine L_binV rfl rfl rfl bv_neq ?_
          refine L_nil ?_
          refine W_weaken (l' := [(1, _), (4, _), (5, _), (7, _), (10, _), (72, _)]) (Sub.cons rfl (Sub.cons rfl (Sub.cons rfl (Sub.cons rfl (Sub.cons rfl (Sub.cons rfl (Sub.nil _))))))) (MSub.refl _) ?_
          refine W_cond rfl (fun hc22 => ?_) (fun hc22 => ?_)
          · skip
            refine W_seq ?_
            refine W_region ?_
            refine L_assign rfl rfl ?_
            refine L_nil ?_
            refine W_ret ?_
            -- return 5 (R23)
            refine res1 rfl (ResOK.tmp rfl) ⟨?_, rfl⟩ (MSub.nil _)
            exfalso
            simp [hn1, hn2] at hc22 <;> omega
          · skip
            refine W_skip ?_
            refine W_seq ?_
            refine W_region ?_
            refine L_loadW rfl rfl (by first | exact RdC.blk (by repeat (first | exact List.Mem.head _ | apply List.Mem.tail))) (by exact agg112) ?_
            refine L_callR rfl fn77 rfl (by exact fun w hw => toENode_spec w _ (rd_carry h1 hw) (by omega)) ?_
            rintro v M1 ⟨n3, hv, hn3, rfl⟩
            subst hv
            simp only [List.cons_append, List.nil_append]
            refine L_callR rfl fn78 rfl (by exact fun w hw => iENodeFall_spec w n3 (rd_of_tree (by repeat (first | exact List.Mem.head _ | apply List.Mem.tail)) hw.sees) (by rw [hn3]; exact ho1) (by first | (rw [hn3, ← Bd.eq]; omega) | (rw [← Bd.eq]; omega))) ?_
            rintro v M1 ⟨r3_0, hv, hr3_0, rfl⟩
            subst hv
            simp only [List.cons_append, List.nil_append]
            refine L_move rfl rfl ?_
            refine L_extract rfl rfl rfl ?_
            refine L_extract rfl rfl rfl ?_
            refine L_alloc rfl zero117 (fun bk12 => ?_)
            refine L_storeW rfl rfl (by repeat (first | exact Pick.here _ | apply Pick.there)) (by exact agg117) (by rfl) (by first | (simp [Value.oneCell', TL.hdr]; done) | (simp [Value.oneCell', TL.hdr, Value.cells]; done) | exact fun v hv => GT.one _ v hv) ?_
            refine L_assign rfl rfl ?_
            refine L_nil ?_
            refine W_seq ?_
            refine W_seq ?_
            refine W_D0 [87] mix (by kernel_rfl) rfl ?_
            refine D_loadW GC.none (OpV.t rfl) (fun hg => (by first | exact RdC.blk (by repeat (first | exact List.Mem.head _ | apply List.Mem.tail)))) (by exact agg117) ?_
            refine D_loadW GC.none (OpV.t rfl) (fun hg => (by first | exact RdC.blk (by repeat (first | exact List.Mem.head _ | apply List.Mem.tail)))) (by exact agg117) ?_
            refine D_callX GC.none fn79 (OpVs.cons (OpV.t rfl) (OpVs.cons (OpV.t rfl) (OpVs.nil))) (by exact fun hg w F hF hM => eqENode_spec w r3_0 r1_0 (rd_of_tree (hM _ (by repeat (first | exact List.Mem.head _ | apply List.Mem.tail))) hF.sees) (rd_of_tree (hM _ (by repeat (first | exact List.Mem.head _ | apply List.Mem.tail))) hF.sees)) ?_
            refine D_not GC.none (OpV.t rfl) ?_
            refine D_move GC.none (OpV.t rfl) ?_
            refine D_move (GC.some rfl rfl) (OpV.t rfl) ?_
            refine D_move (GC.some rfl rfl) (OpV.t rfl) ?_
            refine D_bin (GC.some rfl rfl) (OpV.s rfl) (OpV.s rfl) (fun hg => (bv_bneq und4)) ?_
            refine D_or (cy := _) GC.none (OpV.t rfl) (OpV.s rfl) (fun h hb => ⟨h, hb⟩) ?_
            refine DV_nil ?_
            refine Give_is rfl rfl ?_
            refine Give_drop rfl ?_
            refine Give_drop rfl ?_
            refine Give_drop rfl ?_
            refine Give_drop rfl ?_
            refine Give_drop rfl ?_
            refine Give_drop rfl ?_
            refine Give_drop rfl ?_
            refine Give_drop rfl ?_
            refine Give_nil ?_
            refine W_weaken (l' := [(7, _), (10, _), (87, _)]) (Sub.cons rfl (Sub.cons rfl (Sub.cons rfl (Sub.nil _)))) (MSub.refl _) ?_
            refine W_cond rfl (fun hc25 => ?_) (fun hc25 => ?_)
            · skip
              refine W_seq ?_
              refine W_region ?_
              refine L_assign rfl rfl ?_
              refine L_nil ?_
              refine W_ret ?_
              -- return 6 (R26)
              refine res1 rfl (ResOK.tmp rfl) ⟨?_, rfl⟩ (MSub.nil _)
              exfalso
              have hx2 : eqB (GT.dat r3_0) (GT.dat r1_0) = true := eqB_true.2 (by simp only [hn1, hr1_0, hn2, hr2_0, hn3, hr3_0])
              simp [hx2, hn1, hn2, hn3] at hc25 <;> omega
            · skip
              refine W_skip ?_
              refine W_seq ?_
              refine W_region ?_
              refine L_assign rfl rfl ?_
              refine L_nil ?_
              refine W_seq ?_
              refine W_region ?_
              refine L_loadW rfl rfl (by first | exact RdC.blk (by repeat (first | exact List.Mem.head _ | apply List.Mem.tail))) (by exact agg117) ?_
              refine L_move rfl rfl ?_
              refine L_callX rfl fn81 rfl (by exact fun w hw => (by have h := heldENode_spec w r2_0 1 (by omega) (by omega) (rd_of_tree (by repeat (first | exact List.Mem.head _ | apply List.Mem.tail)) hw.sees); rw [Cv.eq] at h; exact h)) ?_
              refine L_assign rfl rfl ?_
              refine L_nil ?_
              refine W_seq ?_
              refine W_seq ?_
              refine W_region ?_
              refine L_move rfl rfl ?_
              refine L_binV rfl rfl rfl bv_lss ?_
              refine L_nil ?_
              refine W_weaken (l' := [(10, _), (11, _), (92, _)]) (Sub.cons rfl (Sub.cons rfl (Sub.cons rfl (Sub.nil _)))) (MSub.refl _) ?_
              refine W_cond rfl (fun hc29 => ?_) (fun hc29 => ?_)
              · skip
                refine W_seq ?_
                refine W_region ?_
                refine L_assign rfl rfl ?_
                refine L_nil ?_
                refine W_ret ?_
                -- return 7 (R30)
                refine res1 rfl (ResOK.tmp rfl) ⟨?_, rfl⟩ (MSub.nil _)
                exfalso
                simp [hn1, hn2, hn3] at hc29 <;> omega
              · skip
                refine W_skip ?_
                refine W_seq ?_
                refine W_seq ?_
                refine W_region ?_
                refine L_move rfl rfl ?_
                refine L_move rfl rfl ?_
                refine L_binV rfl rfl rfl bv_neq ?_
                refine L_nil ?_
                refine W_weaken (l' := [(95, _)]) (Sub.cons rfl (Sub.nil _)) (MSub.refl _) ?_
                refine W_cond rfl (fun hc31 => ?_) (fun hc31 => ?_)
                · skip
                  refine W_seq ?_
                  refine W_region ?_
                  refine L_assign rfl rfl ?_
                  refine L_nil ?_
                  refine W_ret ?_
                  -- return 8 (R32)
                  refine res1 rfl (ResOK.tmp rfl) ⟨?_, rfl⟩ (MSub.nil _)
                  exfalso
                  simp [hn1, hn2, hn3] at hc31 <;> omega
                · skip
                  refine W_skip ?_
                  refine W_seq ?_
                  refine W_region ?_
                  refine L_assign rfl rfl ?_
                  refine L_nil ?_
                  refine W_ret ?_
                  -- return 9 (R33)
                  refine res1 rfl (ResOK.tmp rfl) ⟨?_, rfl⟩ (MSub.nil _)
                  rfl

end Go.Proofs.SL
