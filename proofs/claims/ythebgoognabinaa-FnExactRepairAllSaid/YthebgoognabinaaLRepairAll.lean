/- The law FnExactRepairAll. -/
import Derived.Test.YthebgoognabinaaPR
import Derived.Test.YthebgoognabinaaFP
namespace Go.Proofs.SL
open Go

theorem bd_ups' (d : D_Ups) : Bd.bd (τ := T_Ups) d = d.2.length + bds T_Up d.2 := by
  show 0 + (d.2.length + bds T_Up d.2) = _
  omega
theorem bds_ups_le : ∀ {l : List D_Up}, (∀ y, y ∈ l → y.1.size = 8 ∧ (∀ n, n ∈ y.2.1 → 0 ≤ n ∧ n < 3) ∧ y.2.1.Pairwise (· < ·)) → bds T_Up l ≤ 11 * l.length
  | [], _ => by simp [bds]
  | x :: l, h => by
    obtain ⟨h1, h2, h3⟩ := h x (List.mem_cons_self ..)
    have := bds_ups_le (l := l) fun y hy => h y (List.mem_cons_of_mem _ hy)
    have h4 := nodes_le h2 h3
    have h5 : Bd.bd (τ := T_Up) x = x.1.size + x.2.1.length := by
      show x.1.size + ((x.2.1.length + bds Int x.2.1) + 0) = _
      rw [bds_int]; omega
    simp only [bds, List.length_cons, h5]
    omega
theorem repairAll_bd (t : T_Ups) (l : List D_Copy) (g : T_Ups) (h : GT.dat g = (repairAllD (GT.dat t) l).1) : Bk.bulk g ≤ Bk.bulk t + 1000 := by
  rw [Bd.eq, Bd.eq, h]
  generalize GT.dat t = d
  unfold repairAllD
  split
  · rename_i hk
    obtain ⟨r, hr⟩ := rep_some d l d.2
    rw [hr, Option.getD_some]
    rcases rep_inv d l d.2 r (repInv_start hk) hr with rfl | ⟨t', rfl, hI⟩
    · dsimp only; omega
    · rw [bd_ups', bd_ups']
      dsimp only
      have h1 := bds_ups_le hI.2
      have h2 := hI.1
      obtain ⟨_, h3, _⟩ := upsOk_facts hk
      omega
  · show 0 + (0 + 0) ≤ _; omega

theorem fn19 : IsFn Try.prog 19 := ⟨_, Try.func19, by kernel_rfl, rfl⟩
theorem fn28 : IsFn Try.prog 28 := ⟨_, Try.func28, by kernel_rfl, rfl⟩
theorem agg24 : aggOf Try.prog 24 = some 2 := by kernel_rfl
theorem fn14 : IsFn Try.prog 14 := ⟨_, Try.func14, by kernel_rfl, rfl⟩
theorem fn23 : IsFn Try.prog 23 := ⟨_, Try.func23, by kernel_rfl, rfl⟩
theorem fn16 : IsFn Try.prog 16 := ⟨_, Try.func16, by kernel_rfl, rfl⟩
theorem fn25 : IsFn Try.prog 25 := ⟨_, Try.func25, by kernel_rfl, rfl⟩
theorem fn24 : IsFn Try.prog 24 := ⟨_, Try.func24, by kernel_rfl, rfl⟩
theorem fn26 : IsFn Try.prog 26 := ⟨_, Try.func26, by kernel_rfl, rfl⟩
theorem fn18 : IsFn Try.prog 18 := ⟨_, Try.func18, by kernel_rfl, rfl⟩
theorem und4 : Try.prog.underlying 4 = some (.bool) := by kernel_rfl
theorem fn27 : IsFn Try.prog 27 := ⟨_, Try.func27, by kernel_rfl, rfl⟩
theorem fn20 : IsFn Try.prog 20 := ⟨_, Try.func20, by kernel_rfl, rfl⟩
theorem sRepairAll_spec (w : World) (a0 : T_Ups) (a1 : TL T_Copy) (h0 : GT.rd w [] a0) (h1 : GT.rd w [] a1) (ho0 : Ok.ok (GT.dat a0)) (ho1 : Ok.ok (GT.dat a1))  : Spec Try.prog 24 [.agg (GT.cells a0).toArray, a1.hdr].toArray w [] (fun v M => ∃ (x0 : T_Ups), v = .tuple #[.agg (GT.cells x0).toArray, .bool ((repairAllD (GT.dat a0) (GT.dat a1)).2)] ∧ GT.dat x0 = (repairAllD (GT.dat a0) (GT.dat a1)).1 ∧ M = [treeH x0]) := (s_RepairAll_walk w a0 a1 h0 h1 _ (s_RepairAll_eq ho0 ho1.1)).to fun v M ⟨x0, x1, hv, hd, hM⟩ => by
  obtain rfl : x1 = (repairAllD (GT.dat a0) (GT.dat a1)).2 := congrArg (fun z => z.2) hd
  exact ⟨x0, hv, congrArg (fun z => z.1) hd, hM⟩
theorem iRepairAll_spec (w : World) (a0 : T_Ups) (a1 : TL T_Copy) (h0 : GT.rd w [] a0) (h1 : GT.rd w [] a1) (ho0 : Ok.ok (GT.dat a0)) (ho1 : Ok.ok (GT.dat a1))  : Spec Try.prog 26 [.agg (GT.cells a0).toArray, a1.hdr].toArray w [] (fun v M => ∃ (x0 : T_Ups), v = .tuple #[.agg (GT.cells x0).toArray, .bool ((repairAllD (GT.dat a0) (GT.dat a1)).2)] ∧ GT.dat x0 = (repairAllD (GT.dat a0) (GT.dat a1)).1 ∧ M = [treeH x0]) := (i_RepairAll_walk w a0 a1 h0 h1 _ (i_RepairAll_eq ho0 ho1.1)).to fun v M ⟨x0, x1, hv, hd, hM⟩ => by
  obtain rfl : x1 = (repairAllD (GT.dat a0) (GT.dat a1)).2 := congrArg (fun z => z.2) hd
  exact ⟨x0, hv, congrArg (fun z => z.1) hd, hM⟩
theorem lawFnExactRepairAll (w : World) (t1 : T_Ups) (t2 : TL T_Copy) (h1 : GT.rd w [] t1) (h2 : GT.rd w [] t2) (ho1 : Ok.ok (GT.dat t1)) (ho2 : Ok.ok (GT.dat t2)) : Spec Try.prog 5 [.agg (GT.cells t1).toArray, t2.hdr].toArray w [] (IsV (.bool true)) := by
  refine Spec.intro Try.func5 rfl Try.ntmps5 rfl ?_
  refine W_seq ?_
  refine W_region ?_
  refine L_box rfl rfl (fun bk2 => ?_)
  refine L_assign rfl rfl ?_
  refine L_nil ?_
  refine W_seq ?_
  refine W_region ?_
  refine L_assign rfl rfl ?_
  refine L_nil ?_
  refine W_seq ?_
  refine W_region ?_
  refine L_loadW rfl rfl (by first | exact RdC.blk (by repeat (first | exact List.Mem.head _ | apply List.Mem.tail))) (by exact agg24) ?_
  refine L_move rfl rfl ?_
  refine L_callX rfl fn14 rfl (by exact fun w hw => szUps_spec w t1 (1048576) (by omega) (by omega) (rd_carry h1 hw) ho1) ?_
  refine L_assign rfl rfl ?_
  refine L_nil ?_
  refine W_seq ?_
  refine W_seq ?_
  refine W_region ?_
  refine L_move rfl rfl ?_
  refine L_binV rfl rfl rfl bv_lss ?_
  refine L_nil ?_
  refine W_weaken (l' := [(1, _), (2, _), (5, _), (21, _)]) (Sub.cons rfl (Sub.cons rfl (Sub.cons rfl (Sub.cons rfl (Sub.nil _))))) (MSub.refl _) ?_
  refine W_cond rfl (fun hc3 => ?_) (fun hc3 => ?_)
  · skip
    refine W_seq ?_
    refine W_region ?_
    refine L_assign rfl rfl ?_
    refine L_nil ?_
    refine W_ret ?_
    -- return 1 (R4)
    refine res1 rfl (ResOK.tmp rfl) ⟨?_, rfl⟩ (MSub.nil _)
    rfl
  · skip
    have hb1 : (Bk.bulk t1 : Int) ≤ 1048576 := by
      rcases Int.decLt (1048576) (Bk.bulk t1 : Int) with hn | hn
      · omega
      · rw [if_neg (by omega)] at hc3; simp at hc3
    rw [if_pos hb1]
    refine W_skip ?_
    refine W_seq ?_
    refine W_region ?_
    refine L_move rfl rfl ?_
    refine L_move rfl rfl ?_
    refine L_callX rfl fn23 rfl (by exact fun w hw => szCopyS_spec w t2 (1048576 - (Bk.bulk t1 : Int)) (by omega) (by omega) (rd_carry h2 hw) ho2) ?_
    refine L_assign rfl rfl ?_
    refine L_nil ?_
    refine W_seq ?_
    refine W_seq ?_
    refine W_region ?_
    refine L_move rfl rfl ?_
    refine L_binV rfl rfl rfl bv_lss ?_
    refine L_nil ?_
    refine W_weaken (l' := [(1, _), (2, _), (26, _)]) (Sub.cons rfl (Sub.cons rfl (Sub.cons rfl (Sub.nil _)))) (MSub.refl _) ?_
    refine W_cond rfl (fun hc6 => ?_) (fun hc6 => ?_)
    · skip
      refine W_seq ?_
      refine W_region ?_
      refine L_assign rfl rfl ?_
      refine L_nil ?_
      refine W_ret ?_
      -- return 2 (R7)
      refine res1 rfl (ResOK.tmp rfl) ⟨?_, rfl⟩ (MSub.nil _)
      rfl
    · skip
      have hb2 : (Bk.bulk t2 : Int) ≤ 1048576 - (Bk.bulk t1 : Int) := by
        rcases Int.decLt (1048576 - (Bk.bulk t1 : Int)) (Bk.bulk t2 : Int) with hn | hn
        · omega
        · rw [if_neg (by omega)] at hc6; simp at hc6
      rw [if_pos hb2]
      refine W_skip ?_
      refine W_seq ?_
      refine W_region ?_
      refine L_loadW rfl rfl (by first | exact RdC.blk (by repeat (first | exact List.Mem.head _ | apply List.Mem.tail))) (by exact agg24) ?_
      refine L_callR rfl fn16 rfl (by exact fun w hw => toUps_spec w _ (rd_carry h1 hw) (by omega)) ?_
      rintro v M1 ⟨n1, hv, hn1, rfl⟩
      subst hv
      simp only [List.cons_append, List.nil_append]
      refine L_move rfl rfl ?_
      refine L_callR rfl fn25 rfl (by exact fun w hw => toCopyS_spec w _ (rd_carry h2 hw) (by omega)) ?_
      rintro v M1 ⟨n2, hv, hn2, rfl⟩
      subst hv
      simp only [List.cons_append, List.nil_append]
      refine L_callR rfl fn24 rfl (by exact fun w hw => sRepairAll_spec w n1 n2 (rd_of_tree (by repeat (first | exact List.Mem.head _ | apply List.Mem.tail)) hw.sees) (rd_of_tree (by repeat (first | exact List.Mem.head _ | apply List.Mem.tail)) hw.sees) (by rw [hn1]; exact ho1) (by rw [hn2]; exact ho2)) ?_
      rintro v M1 ⟨r1_0, hv, hr1_0, rfl⟩
      subst hv
      simp only [List.cons_append, List.nil_append]
      refine L_move rfl rfl ?_
      refine L_extract rfl rfl rfl ?_
      refine L_extract rfl rfl rfl ?_
      refine L_alloc rfl zero28 (fun bk6 => ?_)
      refine L_storeW rfl rfl (by repeat (first | exact Pick.here _ | apply Pick.there)) (by exact agg28) (by rfl) (by first | (simp [Value.oneCell', TL.hdr]; done) | (simp [Value.oneCell', TL.hdr, Value.cells]; done) | exact fun v hv => GT.one _ v hv) ?_
      refine L_assign rfl rfl ?_
      refine L_nil ?_
      refine W_seq ?_
      refine W_region ?_
      refine L_loadW rfl rfl (by first | exact RdC.blk (by repeat (first | exact List.Mem.head _ | apply List.Mem.tail))) (by exact agg24) ?_
      refine L_callR rfl fn16 rfl (by exact fun w hw => toUps_spec w _ (rd_carry h1 hw) (by omega)) ?_
      rintro v M1 ⟨n3, hv, hn3, rfl⟩
      subst hv
      simp only [List.cons_append, List.nil_append]
      refine L_alloc rfl zero28 (fun bk8 => ?_)
      refine L_storeW rfl rfl (by repeat (first | exact Pick.here _ | apply Pick.there)) (by exact agg28) (by rfl) (by first | (simp [Value.oneCell', TL.hdr]; done) | (simp [Value.oneCell', TL.hdr, Value.cells]; done) | exact fun v hv => GT.one _ v hv) ?_
      refine L_nil ?_
      refine W_seq ?_
      refine W_region ?_
      refine L_move rfl rfl ?_
      refine L_callR rfl fn25 rfl (by exact fun w hw => toCopyS_spec w _ (rd_carry h2 hw) (by omega)) ?_
      rintro v M1 ⟨n4, hv, hn4, rfl⟩
      subst hv
      simp only [List.cons_append, List.nil_append]
      refine L_assign rfl rfl ?_
      refine L_nil ?_
      refine W_seq ?_
      refine W_region ?_
      refine L_loadW rfl rfl (by first | exact RdC.blk (by repeat (first | exact List.Mem.head _ | apply List.Mem.tail))) (by exact agg28) ?_
      refine L_move rfl rfl ?_
      refine L_callR rfl fn26 rfl (by exact fun w hw => iRepairAll_spec w n3 n4 (rd_of_tree (by repeat (first | exact List.Mem.head _ | apply List.Mem.tail)) hw.sees) (rd_of_tree (by repeat (first | exact List.Mem.head _ | apply List.Mem.tail)) hw.sees) (by rw [hn3]; exact ho1) (by rw [hn4]; exact ho2)) ?_
      rintro v M1 ⟨r2_0, hv, hr2_0, rfl⟩
      subst hv
      simp only [List.cons_append, List.nil_append]
      refine L_move rfl rfl ?_
      refine L_extract rfl rfl rfl ?_
      refine L_extract rfl rfl rfl ?_
      refine L_alloc rfl zero28 (fun bk10 => ?_)
      refine L_storeW rfl rfl (by repeat (first | exact Pick.here _ | apply Pick.there)) (by exact agg28) (by rfl) (by first | (simp [Value.oneCell', TL.hdr]; done) | (simp [Value.oneCell', TL.hdr, Value.cells]; done) | exact fun v hv => GT.one _ v hv) ?_
      refine L_assign rfl rfl ?_
      refine L_nil ?_
      refine W_seq ?_
      refine W_seq ?_
      refine W_D0 [53] mix (by kernel_rfl) rfl ?_
      refine D_loadW GC.none (OpV.t rfl) (fun hg => (by first | exact RdC.blk (by repeat (first | exact List.Mem.head _ | apply List.Mem.tail)))) (by exact agg28) ?_
      refine D_loadW GC.none (OpV.t rfl) (fun hg => (by first | exact RdC.blk (by repeat (first | exact List.Mem.head _ | apply List.Mem.tail)))) (by exact agg28) ?_
      refine D_callX GC.none fn18 (OpVs.cons (OpV.t rfl) (OpVs.cons (OpV.t rfl) (OpVs.nil))) (by exact fun hg w F hF hM => eqUps_spec w r2_0 r1_0 (rd_of_tree (hM _ (by repeat (first | exact List.Mem.head _ | apply List.Mem.tail))) hF.sees) (rd_of_tree (hM _ (by repeat (first | exact List.Mem.head _ | apply List.Mem.tail))) hF.sees)) ?_
      refine D_not GC.none (OpV.t rfl) ?_
      refine D_move GC.none (OpV.t rfl) ?_
      refine D_move (GC.some rfl rfl) (OpV.t rfl) ?_
      refine D_move (GC.some rfl rfl) (OpV.t rfl) ?_
      refine D_bin (GC.some rfl rfl) (OpV.s rfl) (OpV.s rfl) (fun hg => (bv_bneq und4)) ?_
      refine D_or (cy := _) GC.none (OpV.t rfl) (OpV.s rfl) (fun h hb => ⟨h, hb⟩) ?_
      refine DV_nil ?_
      refine Give_is rfl rfl ?_
      refine Give_drop rfl ?_
      refine Give_drop rfl ?_
      refine Give_drop rfl ?_
      refine Give_drop rfl ?_
      refine Give_drop rfl ?_
      refine Give_drop rfl ?_
      refine Give_drop rfl ?_
      refine Give_drop rfl ?_
      refine Give_nil ?_
      refine W_weaken (l' := [(1, _), (2, _), (6, _), (7, _), (8, _), (9, _), (10, _), (11, _), (53, _)]) (Sub.cons rfl (Sub.cons rfl (Sub.cons rfl (Sub.cons rfl (Sub.cons rfl (Sub.cons rfl (Sub.cons rfl (Sub.cons rfl (Sub.cons rfl (Sub.nil _)))))))))) (MSub.refl _) ?_
      refine W_cond rfl (fun hc12 => ?_) (fun hc12 => ?_)
      · skip
        refine W_seq ?_
        refine W_region ?_
        refine L_assign rfl rfl ?_
        refine L_nil ?_
        refine W_ret ?_
        -- return 3 (R13)
        refine res1 rfl (ResOK.tmp rfl) ⟨?_, rfl⟩ (MSub.nil _)
        exfalso
        have hx2 : eqB (GT.dat r2_0) (GT.dat r1_0) = true := eqB_true.2 (by simp only [hn1, hn2, hr1_0, hn3, hn4, hr2_0])
        simp [hx2, hn1, hn2, hn3, hn4] at hc12 <;> omega
      · skip
        refine W_skip ?_
        refine W_seq ?_
        refine W_seq ?_
        refine W_D0 [58] mix (by kernel_rfl) rfl ?_
        refine D_loadW GC.none (OpV.t rfl) (fun hg => (by first | exact RdC.blk (by repeat (first | exact List.Mem.head _ | apply List.Mem.tail)))) (by exact agg28) ?_
        refine D_loadW GC.none (OpV.t rfl) (fun hg => (by first | exact RdC.blk (by repeat (first | exact List.Mem.head _ | apply List.Mem.tail)))) (by exact agg24) ?_
        refine D_call1R (fun v M => ∃ m : T_Ups, v = .agg (GT.cells m).toArray ∧ GT.dat m = GT.dat t1 ∧ M = [treeH m]) fn16 (OpVs.cons (OpV.t rfl) (OpVs.nil)) (by exact fun w F hF hM => (fun w hw => toUps_spec w _ (rd_carry h1 hw) (by omega)) w hF) ?_
        refine D_callR [_, _] (FC True (.bool true)) fn18 ⟨⟨_, rfl, fun _ _ h => h⟩, ⟨_, rfl, fun _ _ h => h⟩, trivial⟩ (by
          rintro w F vs hw hM ⟨v1, u1, M1, rfl, ⟨rfl, hx1, _⟩, _, v2, u2, M2, rfl, ⟨m2, rfl, hd2x, rfl⟩, hin, rfl⟩
          obtain rfl := hx1 trivial
          have h := eqUps_spec w n3 m2 (rd_of_tree (hM _ (by repeat (first | exact List.Mem.head _ | apply List.Mem.tail))) hw.sees) (rd_of_tree (hin _ (List.mem_singleton.2 rfl)) hw.sees)
          rw [eqB_true.2 (hn3.trans hd2x.symm)] at h
          exact h.toFC) ?_
        refine D_not GC.none (OpV.t rfl) ?_
        refine DV_nil ?_
        refine Give_is rfl rfl ?_
        refine Give_drop rfl ?_
        refine Give_drop rfl ?_
        refine Give_drop rfl ?_
        refine Give_drop rfl ?_
        refine Give_nil ?_
        refine W_weaken (l' := [(1, _), (2, _), (6, _), (7, _), (8, _), (9, _), (10, _), (11, _), (58, _)]) (Sub.cons rfl (Sub.cons rfl (Sub.cons rfl (Sub.cons rfl (Sub.cons rfl (Sub.cons rfl (Sub.cons rfl (Sub.cons rfl (Sub.cons rfl (Sub.nil _)))))))))) (MSub.refl _) ?_
        refine W_condF rfl ?_
        refine W_skip ?_
        refine W_seq ?_
        refine W_seq ?_
        refine W_region ?_
        refine L_move rfl rfl ?_
        refine L_move rfl rfl ?_
        refine L_callR rfl fn25 rfl (by exact fun w hw => toCopyS_spec w _ (rd_carry h2 hw) (by omega)) ?_
        rintro v M1 ⟨n5, hv, hn5, rfl⟩
        subst hv
        simp only [List.cons_append, List.nil_append]
        refine L_callX rfl fn27 rfl (by exact fun w hw => eqCopyS_spec w n4 n5 (rd_of_tree (by repeat (first | exact List.Mem.head _ | apply List.Mem.tail)) hw.sees) (rd_of_tree (by repeat (first | exact List.Mem.head _ | apply List.Mem.tail)) hw.sees)) ?_
        refine L_not rfl rfl ?_
        refine L_nil ?_
        refine W_weaken (l' := [(1, _), (2, _), (6, _), (7, _), (8, _), (9, _), (10, _), (11, _), (63, _)]) (Sub.cons rfl (Sub.cons rfl (Sub.cons rfl (Sub.cons rfl (Sub.cons rfl (Sub.cons rfl (Sub.cons rfl (Sub.cons rfl (Sub.cons rfl (Sub.nil _)))))))))) (MSub.refl _) ?_
        refine W_cond rfl (fun hc16 => ?_) (fun hc16 => ?_)
        · skip
          refine W_seq ?_
          refine W_region ?_
          refine L_assign rfl rfl ?_
          refine L_nil ?_
          refine W_ret ?_
          -- return 4 (R17)
          refine res1 rfl (ResOK.tmp rfl) ⟨?_, rfl⟩ (MSub.nil _)
          exfalso
          have hx3 : eqB (GT.dat n4) (GT.dat n5) = true := eqB_true.2 (by simp only [hn1, hn2, hr1_0, hn3, hn4, hr2_0, hn5])
          simp [hx3, hn1, hn2, hn3, hn4, hn5] at hc16 <;> omega
        · skip
          refine W_skip ?_
          refine W_seq ?_
          refine W_region ?_
          refine L_assign rfl rfl ?_
          refine L_nil ?_
          refine W_seq ?_
          have hc_n3 : Mv.cnt n3 ≤ 1000000000000 := cntv_le n3 rfl (by rw [bulk_dat hn3]; omega)
          refine W_region ?_
          refine L_loadW rfl rfl (by first | exact RdC.blk (by repeat (first | exact List.Mem.head _ | apply List.Mem.tail))) (by exact agg28) ?_
          refine L_move rfl rfl ?_
          refine L_call1 (h := treeH n3) rfl fn19 rfl (by repeat (first | exact Pick.here _ | apply Pick.there)) (by exact fun w hw => markUps_spec w n3 1 (by omega) (by omega)) ?_
          rintro v M1 ⟨hv, rfl⟩
          subst hv
          simp only [List.cons_append, List.nil_append]
          refine L_assign rfl rfl ?_
          refine L_nil ?_
          refine W_seq ?_
          have hc_n4 : Mk.cnt n4 ≤ 1000000000000 := cntk_le n4 rfl (by rw [bulk_dat hn4]; omega)
          refine W_region ?_
          refine L_move rfl rfl ?_
          refine L_move rfl rfl ?_
          refine L_call1 (h := treeH n4) rfl fn28 rfl (by repeat (first | exact Pick.here _ | apply Pick.there)) (by exact fun w hw => markCopyS_spec w n4 (1 + Mv.cnt n3) (by omega) (by omega)) ?_
          rintro v M1 ⟨hv, rfl⟩
          subst hv
          simp only [List.cons_append, List.nil_append]
          refine L_assign rfl rfl ?_
          refine L_nil ?_
          refine W_seq ?_
          refine W_seq ?_
          refine W_D0 [82] mix (by kernel_rfl) rfl ?_
          refine D_move GC.none (OpV.t rfl) ?_
          refine D_bin GC.none (OpV.t rfl) OpV.c (fun hg => bv_lss) ?_
          refine D_move GC.none (OpV.t rfl) ?_
          refine D_loadW (GC.some rfl rfl) (OpV.t rfl) (fun hg => (by first | exact RdC.blk (by repeat (first | exact List.Mem.head _ | apply List.Mem.tail)))) (by exact agg28) ?_
          refine D_loadW (GC.some rfl rfl) (OpV.t rfl) (fun hg => (by first | exact RdC.blk (by repeat (first | exact List.Mem.head _ | apply List.Mem.tail)))) (by exact agg28) ?_
          refine D_callX (GC.some rfl rfl) fn18 (OpVs.cons (OpV.s rfl) (OpVs.cons (OpV.s rfl) (OpVs.nil))) (by exact fun hg w F hF hM => eqUps_spec w r2_0 r1_0 (rd_of_tree (hM _ (by repeat (first | exact List.Mem.head _ | apply List.Mem.tail))) hF.sees) (rd_of_tree (hM _ (by repeat (first | exact List.Mem.head _ | apply List.Mem.tail))) hF.sees)) ?_
          refine D_not (GC.some rfl rfl) (OpV.s rfl) ?_
          refine D_or (cy := _) GC.none (OpV.t rfl) (OpV.s rfl) (fun h hb => ⟨h, hb⟩) ?_
          refine D_move GC.none (OpV.t rfl) ?_
          refine D_move (GC.some rfl rfl) (OpV.t rfl) ?_
          refine D_move (GC.some rfl rfl) (OpV.t rfl) ?_
          refine D_bin (GC.some rfl rfl) (OpV.s rfl) (OpV.s rfl) (fun hg => (bv_bneq und4)) ?_
          refine D_or (cy := _) GC.none (OpV.t rfl) (OpV.s rfl) (fun h hb => ⟨h, hb⟩) ?_
          refine DV_nil ?_
          refine Give_is rfl rfl ?_
          refine Give_drop rfl ?_
          refine Give_drop rfl ?_
          refine Give_drop rfl ?_
          refine Give_drop rfl ?_
          refine Give_drop rfl ?_
          refine Give_drop rfl ?_
          refine Give_drop rfl ?_
          refine Give_drop rfl ?_
          refine Give_drop rfl ?_
          refine Give_drop rfl ?_
          refine Give_drop rfl ?_
          refine Give_drop rfl ?_
          refine Give_nil ?_
          refine W_weaken (l' := [(1, _), (2, _), (6, _), (7, _), (10, _), (82, _)]) (Sub.cons rfl (Sub.cons rfl (Sub.cons rfl (Sub.cons rfl (Sub.cons rfl (Sub.cons rfl (Sub.nil _))))))) (MSub.refl _) ?_
          refine W_cond rfl (fun hc21 => ?_) (fun hc21 => ?_)
          · skip
            refine W_seq ?_
            refine W_region ?_
            refine L_assign rfl rfl ?_
            refine L_nil ?_
            refine W_ret ?_
            -- return 5 (R22)
            refine res1 rfl (ResOK.tmp rfl) ⟨?_, rfl⟩ (MSub.nil _)
            exfalso
            have hx5 : eqB (GT.dat r2_0) (GT.dat r1_0) = true := eqB_true.2 (by simp only [hn1, hn2, hr1_0, hn3, hn4, hr2_0, hn5])
            simp [hx5, hn1, hn2, hn3, hn4, hn5] at hc21 <;> omega
          · skip
            refine W_skip ?_
            refine W_seq ?_
            refine W_region ?_
            refine L_assign rfl rfl ?_
            refine L_nil ?_
            refine W_seq ?_
            have hc_r2_0 : Mv.cnt r2_0 ≤ 1000000000000 := cntv_le r2_0 rfl (by have := repairAll_bd _ _ _ hr2_0; rw [bulk_dat hn3] at this; omega)
            refine W_region ?_
            refine L_loadW rfl rfl (by first | exact RdC.blk (by repeat (first | exact List.Mem.head _ | apply List.Mem.tail))) (by exact agg28) ?_
            refine L_move rfl rfl ?_
            refine L_call1 (h := treeH r2_0) rfl fn19 rfl (by repeat (first | exact Pick.here _ | apply Pick.there)) (by exact fun w hw => markUps_spec w r2_0 1 (by omega) (by omega)) ?_
            rintro v M1 ⟨hv, rfl⟩
            subst hv
            simp only [List.cons_append, List.nil_append]
            refine L_assign rfl rfl ?_
            refine L_nil ?_
            refine W_seq ?_
            refine W_region ?_
            refine L_assign rfl rfl ?_
            refine L_nil ?_
            refine W_seq ?_
            refine W_region ?_
            refine L_loadW rfl rfl (by first | exact RdC.blk (by repeat (first | exact List.Mem.head _ | apply List.Mem.tail))) (by exact agg28) ?_
            refine L_move rfl rfl ?_
            refine L_callX rfl fn20 rfl (by exact fun w hw => (by have h := heldUps_spec w r2_0 1 (by omega) (by omega) (rd_of_tree (by repeat (first | exact List.Mem.head _ | apply List.Mem.tail)) hw.sees); rw [Cv.eq] at h; exact h)) ?_
            refine L_assign rfl rfl ?_
            refine L_nil ?_
            refine W_seq ?_
            refine W_seq ?_
            refine W_region ?_
            refine L_move rfl rfl ?_
            refine L_binV rfl rfl rfl bv_lss ?_
            refine L_nil ?_
            refine W_weaken (l' := [(1, _), (2, _), (6, _), (7, _), (10, _), (13, _), (14, _), (90, _)]) (Sub.cons rfl (Sub.cons rfl (Sub.cons rfl (Sub.cons rfl (Sub.cons rfl (Sub.cons rfl (Sub.cons rfl (Sub.cons rfl (Sub.nil _))))))))) (MSub.refl _) ?_
            refine W_cond rfl (fun hc27 => ?_) (fun hc27 => ?_)
            · skip
              refine W_seq ?_
              refine W_region ?_
              refine L_assign rfl rfl ?_
              refine L_nil ?_
              refine W_ret ?_
              -- return 6 (R28)
              refine res1 rfl (ResOK.tmp rfl) ⟨?_, rfl⟩ (MSub.nil _)
              exfalso
              simp [hn1, hn2, hn3, hn4, hn5] at hc27 <;> omega
            · skip
              refine W_skip ?_
              refine W_seq ?_
              refine W_seq ?_
              refine W_region ?_
              refine L_move rfl rfl ?_
              refine L_move rfl rfl ?_
              refine L_binV rfl rfl rfl bv_neq ?_
              refine L_nil ?_
              refine W_weaken (l' := [(1, _), (2, _), (6, _), (7, _), (10, _), (13, _), (93, _)]) (Sub.cons rfl (Sub.cons rfl (Sub.cons rfl (Sub.cons rfl (Sub.cons rfl (Sub.cons rfl (Sub.cons rfl (Sub.nil _)))))))) (MSub.refl _) ?_
              refine W_cond rfl (fun hc29 => ?_) (fun hc29 => ?_)
              · skip
                refine W_seq ?_
                refine W_region ?_
                refine L_assign rfl rfl ?_
                refine L_nil ?_
                refine W_ret ?_
                -- return 7 (R30)
                refine res1 rfl (ResOK.tmp rfl) ⟨?_, rfl⟩ (MSub.nil _)
                exfalso
                simp [hn1, hn2, hn3, hn4, hn5] at hc29 <;> omega
              · skip
                refine W_skip ?_
                refine W_seq ?_
                refine W_region ?_
                refine L_loadW rfl rfl (by first | exact RdC.blk (by repeat (first | exact List.Mem.head _ | apply List.Mem.tail))) (by exact agg24) ?_
                refine L_callR rfl fn16 rfl (by exact fun w hw => toUps_spec w _ (rd_carry h1 hw) (by omega)) ?_
                rintro v M1 ⟨n6, hv, hn6, rfl⟩
                subst hv
                simp only [List.cons_append, List.nil_append]
                refine L_move rfl rfl ?_
                refine L_callR rfl fn25 rfl (by exact fun w hw => toCopyS_spec w _ (rd_carry h2 hw) (by omega)) ?_
                rintro v M1 ⟨n7, hv, hn7, rfl⟩
                subst hv
                simp only [List.cons_append, List.nil_append]
                refine L_callR rfl fn26 rfl (by exact fun w hw => iRepairAll_spec w n6 n7 (rd_of_tree (by repeat (first | exact List.Mem.head _ | apply List.Mem.tail)) hw.sees) (rd_of_tree (by repeat (first | exact List.Mem.head _ | apply List.Mem.tail)) hw.sees) (by rw [hn6]; exact ho1) (by rw [hn7]; exact ho2)) ?_
                rintro v M1 ⟨r3_0, hv, hr3_0, rfl⟩
                subst hv
                simp only [List.cons_append, List.nil_append]
                refine L_move rfl rfl ?_
                refine L_extract rfl rfl rfl ?_
                refine L_extract rfl rfl rfl ?_
                refine L_alloc rfl zero28 (fun bk15 => ?_)
                refine L_storeW rfl rfl (by repeat (first | exact Pick.here _ | apply Pick.there)) (by exact agg28) (by rfl) (by first | (simp [Value.oneCell', TL.hdr]; done) | (simp [Value.oneCell', TL.hdr, Value.cells]; done) | exact fun v hv => GT.one _ v hv) ?_
                refine L_assign rfl rfl ?_
                refine L_nil ?_
                refine W_seq ?_
                refine W_seq ?_
                refine W_D0 [110] mix (by kernel_rfl) rfl ?_
                refine D_loadW GC.none (OpV.t rfl) (fun hg => (by first | exact RdC.blk (by repeat (first | exact List.Mem.head _ | apply List.Mem.tail)))) (by exact agg28) ?_
                refine D_loadW GC.none (OpV.t rfl) (fun hg => (by first | exact RdC.blk (by repeat (first | exact List.Mem.head _ | apply List.Mem.tail)))) (by exact agg28) ?_
                refine D_callX GC.none fn18 (OpVs.cons (OpV.t rfl) (OpVs.cons (OpV.t rfl) (OpVs.nil))) (by exact fun hg w F hF hM => eqUps_spec w r3_0 r1_0 (rd_of_tree (hM _ (by repeat (first | exact List.Mem.head _ | apply List.Mem.tail))) hF.sees) (rd_of_tree (hM _ (by repeat (first | exact List.Mem.head _ | apply List.Mem.tail))) hF.sees)) ?_
                refine D_not GC.none (OpV.t rfl) ?_
                refine D_move GC.none (OpV.t rfl) ?_
                refine D_move (GC.some rfl rfl) (OpV.t rfl) ?_
                refine D_move (GC.some rfl rfl) (OpV.t rfl) ?_
                refine D_bin (GC.some rfl rfl) (OpV.s rfl) (OpV.s rfl) (fun hg => (bv_bneq und4)) ?_
                refine D_or (cy := _) GC.none (OpV.t rfl) (OpV.s rfl) (fun h hb => ⟨h, hb⟩) ?_
                refine DV_nil ?_
                refine Give_is rfl rfl ?_
                refine Give_drop rfl ?_
                refine Give_drop rfl ?_
                refine Give_drop rfl ?_
                refine Give_drop rfl ?_
                refine Give_drop rfl ?_
                refine Give_drop rfl ?_
                refine Give_drop rfl ?_
                refine Give_drop rfl ?_
                refine Give_nil ?_
                refine W_weaken (l' := [(10, _), (13, _), (110, _)]) (Sub.cons rfl (Sub.cons rfl (Sub.cons rfl (Sub.nil _)))) (MSub.refl _) ?_
                refine W_cond rfl (fun hc32 => ?_) (fun hc32 => ?_)
                · skip
                  refine W_seq ?_
                  refine W_region ?_
                  refine L_assign rfl rfl ?_
                  refine L_nil ?_
                  refine W_ret ?_
                  -- return 8 (R33)
                  refine res1 rfl (ResOK.tmp rfl) ⟨?_, rfl⟩ (MSub.nil _)
                  exfalso
                  have hx2 : eqB (GT.dat r3_0) (GT.dat r1_0) = true := eqB_true.2 (by simp only [hn1, hn2, hr1_0, hn3, hn4, hr2_0, hn5, hn6, hn7, hr3_0])
                  simp [hx2, hn1, hn2, hn3, hn4, hn5, hn6, hn7] at hc32 <;> omega
                · skip
                  refine W_skip ?_
                  refine W_seq ?_
                  refine W_region ?_
                  refine L_assign rfl rfl ?_
                  refine L_nil ?_
                  refine W_seq ?_
                  refine W_region ?_
                  refine L_loadW rfl rfl (by first | exact RdC.blk (by repeat (first | exact List.Mem.head _ | apply List.Mem.tail))) (by exact agg28) ?_
                  refine L_move rfl rfl ?_
                  refine L_callX rfl fn20 rfl (by exact fun w hw => (by have h := heldUps_spec w r2_0 1 (by omega) (by omega) (rd_of_tree (by repeat (first | exact List.Mem.head _ | apply List.Mem.tail)) hw.sees); rw [Cv.eq] at h; exact h)) ?_
                  refine L_assign rfl rfl ?_
                  refine L_nil ?_
                  refine W_seq ?_
                  refine W_seq ?_
                  refine W_region ?_
                  refine L_move rfl rfl ?_
                  refine L_binV rfl rfl rfl bv_lss ?_
                  refine L_nil ?_
                  refine W_weaken (l' := [(13, _), (14, _), (115, _)]) (Sub.cons rfl (Sub.cons rfl (Sub.cons rfl (Sub.nil _)))) (MSub.refl _) ?_
                  refine W_cond rfl (fun hc36 => ?_) (fun hc36 => ?_)
                  · skip
                    refine W_seq ?_
                    refine W_region ?_
                    refine L_assign rfl rfl ?_
                    refine L_nil ?_
                    refine W_ret ?_
                    -- return 9 (R37)
                    refine res1 rfl (ResOK.tmp rfl) ⟨?_, rfl⟩ (MSub.nil _)
                    exfalso
                    simp [hn1, hn2, hn3, hn4, hn5, hn6, hn7] at hc36 <;> omega
                  · skip
                    refine W_skip ?_
                    refine W_seq ?_
                    refine W_seq ?_
                    refine W_region ?_
                    refine L_move rfl rfl ?_
                    refine L_move rfl rfl ?_
                    refine L_binV rfl rfl rfl bv_neq ?_
                    refine L_nil ?_
                    refine W_weaken (l' := [(118, _)]) (Sub.cons rfl (Sub.nil _)) (MSub.refl _) ?_
                    refine W_cond rfl (fun hc38 => ?_) (fun hc38 => ?_)
                    · skip
                      refine W_seq ?_
                      refine W_region ?_
                      refine L_assign rfl rfl ?_
                      refine L_nil ?_
                      refine W_ret ?_
                      -- return 10 (R39)
                      refine res1 rfl (ResOK.tmp rfl) ⟨?_, rfl⟩ (MSub.nil _)
                      exfalso
                      simp [hn1, hn2, hn3, hn4, hn5, hn6, hn7] at hc38 <;> omega
                    · skip
                      refine W_skip ?_
                      refine W_seq ?_
                      refine W_region ?_
                      refine L_assign rfl rfl ?_
                      refine L_nil ?_
                      refine W_ret ?_
                      -- return 11 (R40)
                      refine res1 rfl (ResOK.tmp rfl) ⟨?_, rfl⟩ (MSub.nil _)
                      rfl

end Go.Proofs.SL
