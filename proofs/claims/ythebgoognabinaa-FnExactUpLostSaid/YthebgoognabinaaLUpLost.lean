/- The law FnExactUpLost. -/
import Derived.Test.YthebgoognabinaaPL3
namespace Go.Proofs.SL
open Go

theorem bds_erase {τ δ : Type} [GT τ δ] [Bk τ] [Bd τ] (l : List δ) (k : Nat) : bds τ (l.eraseIdx k) ≤ bds τ l := by
  induction l generalizing k with
  | nil => simp [bds]
  | cons x xs ih =>
    cases k with
    | zero => show bds τ xs ≤ Bd.bd (τ := τ) x + bds τ xs; omega
    | succ k => show Bd.bd (τ := τ) x + bds τ (xs.eraseIdx k) ≤ Bd.bd (τ := τ) x + bds τ xs; have := ih k; omega
theorem bd_ups (d : D_Ups) : Bd.bd (τ := T_Ups) d = d.2.length + bds T_Up d.2 := by
  show 0 + (d.2.length + bds T_Up d.2) = _
  omega
theorem bd_up (x : D_Up) : Bd.bd (τ := T_Up) x = x.1.size + x.2.1.length := by
  show x.1.size + ((x.2.1.length + bds Int x.2.1) + 0) = _
  rw [bds_int]; omega
theorem upLost_bd (t : T_Ups) (c : ByteArray) (n : Int) (g : T_Ups) (h : GT.dat g = (upLostD (GT.dat t) c n).1) : Bk.bulk g ≤ 2 * Bk.bulk t := by
  rw [Bd.eq, Bd.eq, h]
  generalize GT.dat t = d
  unfold upLostD
  split
  · split
    · dsimp only; omega
    · rename_i k hk
      split
      · dsimp only; omega
      · rename_i x hx
        split
        · dsimp only
          rw [bd_ups, bd_ups]
          dsimp only
          split
          · have h1 := bds_erase (τ := T_Up) d.2 k
            have h2 : (d.2.eraseIdx k).length ≤ d.2.length := List.length_eraseIdx_le _ _
            omega
          · rw [List.length_set]
            have h1 := bds_set_le (τ := T_Up) d.2 k (x.1, x.2.1.filter (fun y => !decide (y = n)), x.2.2)
            rw [bd_up] at h1
            dsimp only at h1
            have h2 := bds_mem (τ := T_Up) (List.mem_of_getElem? hx)
            rw [bd_up] at h2
            have h3 := List.length_filter_le (fun y => !decide (y = n)) x.2.1
            omega
        · dsimp only; omega
  · show 0 + (0 + 0) ≤ _; omega

theorem fn19 : IsFn Try.prog 19 := ⟨_, Try.func19, by kernel_rfl, rfl⟩
theorem agg24 : aggOf Try.prog 24 = some 2 := by kernel_rfl
theorem fn14 : IsFn Try.prog 14 := ⟨_, Try.func14, by kernel_rfl, rfl⟩
theorem fn16 : IsFn Try.prog 16 := ⟨_, Try.func16, by kernel_rfl, rfl⟩
theorem fn15 : IsFn Try.prog 15 := ⟨_, Try.func15, by kernel_rfl, rfl⟩
theorem fn17 : IsFn Try.prog 17 := ⟨_, Try.func17, by kernel_rfl, rfl⟩
theorem fn18 : IsFn Try.prog 18 := ⟨_, Try.func18, by kernel_rfl, rfl⟩
theorem und4 : Try.prog.underlying 4 = some (.bool) := by kernel_rfl
theorem fn20 : IsFn Try.prog 20 := ⟨_, Try.func20, by kernel_rfl, rfl⟩
theorem sUpLost_spec (w : World) (a0 : T_Ups) (a1 : ByteArray) (a2 : Int) (h0 : GT.rd w [] a0) (ho0 : Ok.ok (GT.dat a0)) (ho1 : Ok.ok (GT.dat a1)) (ho2 : Ok.ok (GT.dat a2))  : Spec Try.prog 15 [.agg (GT.cells a0).toArray, .string a1, .int .i64 a2].toArray w [] (fun v M => ∃ (x0 : T_Ups), v = .tuple #[.agg (GT.cells x0).toArray, .bool ((upLostD (GT.dat a0) a1 a2).2)] ∧ GT.dat x0 = (upLostD (GT.dat a0) a1 a2).1 ∧ M = [treeH x0]) := (s_UpLost_walk w a0 a1 a2 h0 _ (s_UpLost_eq ho0)).to fun v M ⟨x0, x1, hv, hd, hM⟩ => by
  obtain rfl : x1 = (upLostD (GT.dat a0) a1 a2).2 := congrArg (fun z => z.2) hd
  exact ⟨x0, hv, congrArg (fun z => z.1) hd, hM⟩
theorem iUpLost_spec (w : World) (a0 : T_Ups) (a1 : ByteArray) (a2 : Int) (h0 : GT.rd w [] a0) (ho0 : Ok.ok (GT.dat a0)) (ho1 : Ok.ok (GT.dat a1)) (ho2 : Ok.ok (GT.dat a2))  : Spec Try.prog 17 [.agg (GT.cells a0).toArray, .string a1, .int .i64 a2].toArray w [] (fun v M => ∃ (x0 : T_Ups), v = .tuple #[.agg (GT.cells x0).toArray, .bool ((upLostD (GT.dat a0) a1 a2).2)] ∧ GT.dat x0 = (upLostD (GT.dat a0) a1 a2).1 ∧ M = [treeH x0]) := (i_UpLost_walk w a0 a1 a2 h0 _ (i_UpLost_eq ho0)).to fun v M ⟨x0, x1, hv, hd, hM⟩ => by
  obtain rfl : x1 = (upLostD (GT.dat a0) a1 a2).2 := congrArg (fun z => z.2) hd
  exact ⟨x0, hv, congrArg (fun z => z.1) hd, hM⟩
theorem lawFnExactUpLost (w : World) (t1 : T_Ups) (t2 : ByteArray) (t3 : Int) (h1 : GT.rd w [] t1) (h2 : GT.rd w [] t2) (h3 : GT.rd w [] t3) (ho1 : Ok.ok (GT.dat t1)) (ho2 : Ok.ok (GT.dat t2)) (ho3 : Ok.ok (GT.dat t3)) : Spec Try.prog 3 [.agg (GT.cells t1).toArray, .string t2, .int .i64 t3].toArray w [] (IsV (.bool true)) := by
  refine Spec.intro Try.func3 rfl Try.ntmps3 rfl ?_
  refine W_seq ?_
  refine W_region ?_
  refine L_box rfl rfl (fun bk3 => ?_)
  refine L_assign rfl rfl ?_
  refine L_nil ?_
  refine W_seq ?_
  refine W_seq ?_
  refine W_region ?_
  refine L_move rfl rfl ?_
  refine L_lenT rfl rfl str9 ?_
  refine L_binV rfl rfl rfl bv_gtr ?_
  refine L_nil ?_
  refine W_weaken (l' := [(1, _), (2, _), (3, _), (20, _)]) (Sub.cons rfl (Sub.cons rfl (Sub.cons rfl (Sub.cons rfl (Sub.nil _))))) (MSub.refl _) ?_
  refine W_cond rfl (fun hc1 => ?_) (fun hc1 => ?_)
  · skip
    refine W_seq ?_
    refine W_region ?_
    refine L_assign rfl rfl ?_
    refine L_nil ?_
    refine W_ret ?_
    -- return 1 (R2)
    refine res1 rfl (ResOK.tmp rfl) ⟨?_, rfl⟩ (MSub.nil _)
    rfl
  · skip
    refine W_skip ?_
    refine W_seq ?_
    refine W_region ?_
    refine L_assign rfl rfl ?_
    refine L_nil ?_
    refine W_seq ?_
    refine W_region ?_
    refine L_loadW rfl rfl (by first | exact RdC.blk (by repeat (first | exact List.Mem.head _ | apply List.Mem.tail))) (by exact agg24) ?_
    refine L_move rfl rfl ?_
    refine L_callX rfl fn14 rfl (by exact fun w hw => szUps_spec w t1 (1048576) (by omega) (by omega) (rd_carry h1 hw) ho1) ?_
    refine L_assign rfl rfl ?_
    refine L_nil ?_
    refine W_seq ?_
    refine W_seq ?_
    refine W_region ?_
    refine L_move rfl rfl ?_
    refine L_binV rfl rfl rfl bv_lss ?_
    refine L_nil ?_
    refine W_weaken (l' := [(1, _), (2, _), (3, _), (25, _)]) (Sub.cons rfl (Sub.cons rfl (Sub.cons rfl (Sub.cons rfl (Sub.nil _))))) (MSub.refl _) ?_
    refine W_cond rfl (fun hc5 => ?_) (fun hc5 => ?_)
    · skip
      refine W_seq ?_
      refine W_region ?_
      refine L_assign rfl rfl ?_
      refine L_nil ?_
      refine W_ret ?_
      -- return 2 (R6)
      refine res1 rfl (ResOK.tmp rfl) ⟨?_, rfl⟩ (MSub.nil _)
      rfl
    · skip
      have hb1 : (Bk.bulk t1 : Int) ≤ 1048576 := by
        rcases Int.decLt (1048576) (Bk.bulk t1 : Int) with hn | hn
        · omega
        · rw [if_neg (by omega)] at hc5; simp at hc5
      rw [if_pos hb1]
      refine W_skip ?_
      refine W_seq ?_
      refine W_region ?_
      refine L_loadW rfl rfl (by first | exact RdC.blk (by repeat (first | exact List.Mem.head _ | apply List.Mem.tail))) (by exact agg24) ?_
      refine L_callR rfl fn16 rfl (by exact fun w hw => toUps_spec w _ (rd_carry h1 hw) (by omega)) ?_
      rintro v M1 ⟨n1, hv, hn1, rfl⟩
      subst hv
      simp only [List.cons_append, List.nil_append]
      refine L_move rfl rfl ?_
      refine L_move rfl rfl ?_
      refine L_callR rfl fn15 rfl (by exact fun w hw => sUpLost_spec w n1 t2 t3 (rd_of_tree (by repeat (first | exact List.Mem.head _ | apply List.Mem.tail)) hw.sees) (by rw [hn1]; exact ho1) ho2 ho3) ?_
      rintro v M1 ⟨r1_0, hv, hr1_0, rfl⟩
      subst hv
      simp only [List.cons_append, List.nil_append]
      refine L_move rfl rfl ?_
      refine L_extract rfl rfl rfl ?_
      refine L_extract rfl rfl rfl ?_
      refine L_alloc rfl zero28 (fun bk8 => ?_)
      refine L_storeW rfl rfl (by repeat (first | exact Pick.here _ | apply Pick.there)) (by exact agg28) (by rfl) (by first | (simp [Value.oneCell', TL.hdr]; done) | (simp [Value.oneCell', TL.hdr, Value.cells]; done) | exact fun v hv => GT.one _ v hv) ?_
      refine L_assign rfl rfl ?_
      refine L_nil ?_
      refine W_seq ?_
      refine W_region ?_
      refine L_loadW rfl rfl (by first | exact RdC.blk (by repeat (first | exact List.Mem.head _ | apply List.Mem.tail))) (by exact agg24) ?_
      refine L_callR rfl fn16 rfl (by exact fun w hw => toUps_spec w _ (rd_carry h1 hw) (by omega)) ?_
      rintro v M1 ⟨n2, hv, hn2, rfl⟩
      subst hv
      simp only [List.cons_append, List.nil_append]
      refine L_alloc rfl zero28 (fun bk10 => ?_)
      refine L_storeW rfl rfl (by repeat (first | exact Pick.here _ | apply Pick.there)) (by exact agg28) (by rfl) (by first | (simp [Value.oneCell', TL.hdr]; done) | (simp [Value.oneCell', TL.hdr, Value.cells]; done) | exact fun v hv => GT.one _ v hv) ?_
      refine L_nil ?_
      refine W_seq ?_
      refine W_region ?_
      refine L_loadW rfl rfl (by first | exact RdC.blk (by repeat (first | exact List.Mem.head _ | apply List.Mem.tail))) (by exact agg28) ?_
      refine L_move rfl rfl ?_
      refine L_move rfl rfl ?_
      refine L_callR rfl fn17 rfl (by exact fun w hw => iUpLost_spec w n2 t2 t3 (rd_of_tree (by repeat (first | exact List.Mem.head _ | apply List.Mem.tail)) hw.sees) (by rw [hn2]; exact ho1) ho2 ho3) ?_
      rintro v M1 ⟨r2_0, hv, hr2_0, rfl⟩
      subst hv
      simp only [List.cons_append, List.nil_append]
      refine L_move rfl rfl ?_
      refine L_extract rfl rfl rfl ?_
      refine L_extract rfl rfl rfl ?_
      refine L_alloc rfl zero28 (fun bk11 => ?_)
      refine L_storeW rfl rfl (by repeat (first | exact Pick.here _ | apply Pick.there)) (by exact agg28) (by rfl) (by first | (simp [Value.oneCell', TL.hdr]; done) | (simp [Value.oneCell', TL.hdr, Value.cells]; done) | exact fun v hv => GT.one _ v hv) ?_
      refine L_assign rfl rfl ?_
      refine L_nil ?_
      refine W_seq ?_
      refine W_seq ?_
      refine W_D0 [51] mix (by kernel_rfl) rfl ?_
      refine D_loadW GC.none (OpV.t rfl) (fun hg => (by first | exact RdC.blk (by repeat (first | exact List.Mem.head _ | apply List.Mem.tail)))) (by exact agg28) ?_
      refine D_loadW GC.none (OpV.t rfl) (fun hg => (by first | exact RdC.blk (by repeat (first | exact List.Mem.head _ | apply List.Mem.tail)))) (by exact agg28) ?_
      refine D_callX GC.none fn18 (OpVs.cons (OpV.t rfl) (OpVs.cons (OpV.t rfl) (OpVs.nil))) (by exact fun hg w F hF hM => eqUps_spec w r2_0 r1_0 (rd_of_tree (hM _ (by repeat (first | exact List.Mem.head _ | apply List.Mem.tail))) hF.sees) (rd_of_tree (hM _ (by repeat (first | exact List.Mem.head _ | apply List.Mem.tail))) hF.sees)) ?_
      refine D_not GC.none (OpV.t rfl) ?_
      refine D_move GC.none (OpV.t rfl) ?_
      refine D_move (GC.some rfl rfl) (OpV.t rfl) ?_
      refine D_move (GC.some rfl rfl) (OpV.t rfl) ?_
      refine D_bin (GC.some rfl rfl) (OpV.s rfl) (OpV.s rfl) (fun hg => (bv_bneq und4)) ?_
      refine D_or (cy := _) GC.none (OpV.t rfl) (OpV.s rfl) (fun h hb => ⟨h, hb⟩) ?_
      refine DV_nil ?_
      refine Give_is rfl rfl ?_
      refine Give_drop rfl ?_
      refine Give_drop rfl ?_
      refine Give_drop rfl ?_
      refine Give_drop rfl ?_
      refine Give_drop rfl ?_
      refine Give_drop rfl ?_
      refine Give_drop rfl ?_
      refine Give_drop rfl ?_
      refine Give_nil ?_
      refine W_weaken (l' := [(1, _), (2, _), (3, _), (8, _), (9, _), (10, _), (11, _), (12, _), (51, _)]) (Sub.cons rfl (Sub.cons rfl (Sub.cons rfl (Sub.cons rfl (Sub.cons rfl (Sub.cons rfl (Sub.cons rfl (Sub.cons rfl (Sub.cons rfl (Sub.nil _)))))))))) (MSub.refl _) ?_
      refine W_cond rfl (fun hc10 => ?_) (fun hc10 => ?_)
      · skip
        refine W_seq ?_
        refine W_region ?_
        refine L_assign rfl rfl ?_
        refine L_nil ?_
        refine W_ret ?_
        -- return 3 (R11)
        refine res1 rfl (ResOK.tmp rfl) ⟨?_, rfl⟩ (MSub.nil _)
        exfalso
        have hx2 : eqB (GT.dat r2_0) (GT.dat r1_0) = true := eqB_true.2 (by simp only [hn1, hr1_0, hn2, hr2_0])
        simp [hx2, hn1, hn2] at hc10 <;> omega
      · skip
        refine W_skip ?_
        refine W_seq ?_
        refine W_seq ?_
        refine W_D0 [56] mix (by kernel_rfl) rfl ?_
        refine D_loadW GC.none (OpV.t rfl) (fun hg => (by first | exact RdC.blk (by repeat (first | exact List.Mem.head _ | apply List.Mem.tail)))) (by exact agg28) ?_
        refine D_loadW GC.none (OpV.t rfl) (fun hg => (by first | exact RdC.blk (by repeat (first | exact List.Mem.head _ | apply List.Mem.tail)))) (by exact agg24) ?_
        refine D_call1R (fun v M => ∃ m : T_Ups, v = .agg (GT.cells m).toArray ∧ GT.dat m = GT.dat t1 ∧ M = [treeH m]) fn16 (OpVs.cons (OpV.t rfl) (OpVs.nil)) (by exact fun w F hF hM => (fun w hw => toUps_spec w _ (rd_carry h1 hw) (by omega)) w hF) ?_
        refine D_callR [_, _] (FC True (.bool true)) fn18 ⟨⟨_, rfl, fun _ _ h => h⟩, ⟨_, rfl, fun _ _ h => h⟩, trivial⟩ (by
          rintro w F vs hw hM ⟨v1, u1, M1, rfl, ⟨rfl, hx1, _⟩, _, v2, u2, M2, rfl, ⟨m2, rfl, hd2x, rfl⟩, hin, rfl⟩
          obtain rfl := hx1 trivial
          have h := eqUps_spec w n2 m2 (rd_of_tree (hM _ (by repeat (first | exact List.Mem.head _ | apply List.Mem.tail))) hw.sees) (rd_of_tree (hin _ (List.mem_singleton.2 rfl)) hw.sees)
          rw [eqB_true.2 (hn2.trans hd2x.symm)] at h
          exact h.toFC) ?_
        refine D_not GC.none (OpV.t rfl) ?_
        refine DV_nil ?_
        refine Give_is rfl rfl ?_
        refine Give_drop rfl ?_
        refine Give_drop rfl ?_
        refine Give_drop rfl ?_
        refine Give_drop rfl ?_
        refine Give_nil ?_
        refine W_weaken (l' := [(1, _), (2, _), (3, _), (8, _), (9, _), (10, _), (11, _), (12, _), (56, _)]) (Sub.cons rfl (Sub.cons rfl (Sub.cons rfl (Sub.cons rfl (Sub.cons rfl (Sub.cons rfl (Sub.cons rfl (Sub.cons rfl (Sub.cons rfl (Sub.nil _)))))))))) (MSub.refl _) ?_
        refine W_condF rfl ?_
        refine W_skip ?_
        refine W_seq ?_
        refine W_region ?_
        refine L_assign rfl rfl ?_
        refine L_nil ?_
        refine W_seq ?_
        have hc_n2 : Mv.cnt n2 ≤ 1000000000000 := cntv_le n2 rfl (by rw [bulk_dat hn2]; omega)
        refine W_region ?_
        refine L_loadW rfl rfl (by first | exact RdC.blk (by repeat (first | exact List.Mem.head _ | apply List.Mem.tail))) (by exact agg28) ?_
        refine L_move rfl rfl ?_
        refine L_call1 (h := treeH n2) rfl fn19 rfl (by repeat (first | exact Pick.here _ | apply Pick.there)) (by exact fun w hw => markUps_spec w n2 1 (by omega) (by omega)) ?_
        rintro v M1 ⟨hv, rfl⟩
        subst hv
        simp only [List.cons_append, List.nil_append]
        refine L_assign rfl rfl ?_
        refine L_nil ?_
        refine W_seq ?_
        refine W_seq ?_
        refine W_D0 [72] mix (by kernel_rfl) rfl ?_
        refine D_move GC.none (OpV.t rfl) ?_
        refine D_bin GC.none (OpV.t rfl) OpV.c (fun hg => bv_lss) ?_
        refine D_move GC.none (OpV.t rfl) ?_
        refine D_loadW (GC.some rfl rfl) (OpV.t rfl) (fun hg => (by first | exact RdC.blk (by repeat (first | exact List.Mem.head _ | apply List.Mem.tail)))) (by exact agg28) ?_
        refine D_loadW (GC.some rfl rfl) (OpV.t rfl) (fun hg => (by first | exact RdC.blk (by repeat (first | exact List.Mem.head _ | apply List.Mem.tail)))) (by exact agg28) ?_
        refine D_callX (GC.some rfl rfl) fn18 (OpVs.cons (OpV.s rfl) (OpVs.cons (OpV.s rfl) (OpVs.nil))) (by exact fun hg w F hF hM => eqUps_spec w r2_0 r1_0 (rd_of_tree (hM _ (by repeat (first | exact List.Mem.head _ | apply List.Mem.tail))) hF.sees) (rd_of_tree (hM _ (by repeat (first | exact List.Mem.head _ | apply List.Mem.tail))) hF.sees)) ?_
        refine D_not (GC.some rfl rfl) (OpV.s rfl) ?_
        refine D_or (cy := _) GC.none (OpV.t rfl) (OpV.s rfl) (fun h hb => ⟨h, hb⟩) ?_
        refine D_move GC.none (OpV.t rfl) ?_
        refine D_move (GC.some rfl rfl) (OpV.t rfl) ?_
        refine D_move (GC.some rfl rfl) (OpV.t rfl) ?_
        refine D_bin (GC.some rfl rfl) (OpV.s rfl) (OpV.s rfl) (fun hg => (bv_bneq und4)) ?_
        refine D_or (cy := _) GC.none (OpV.t rfl) (OpV.s rfl) (fun h hb => ⟨h, hb⟩) ?_
        refine DV_nil ?_
        refine Give_is rfl rfl ?_
        refine Give_drop rfl ?_
        refine Give_drop rfl ?_
        refine Give_drop rfl ?_
        refine Give_drop rfl ?_
        refine Give_drop rfl ?_
        refine Give_drop rfl ?_
        refine Give_drop rfl ?_
        refine Give_drop rfl ?_
        refine Give_drop rfl ?_
        refine Give_drop rfl ?_
        refine Give_drop rfl ?_
        refine Give_drop rfl ?_
        refine Give_nil ?_
        refine W_weaken (l' := [(1, _), (2, _), (3, _), (8, _), (9, _), (11, _), (72, _)]) (Sub.cons rfl (Sub.cons rfl (Sub.cons rfl (Sub.cons rfl (Sub.cons rfl (Sub.cons rfl (Sub.cons rfl (Sub.nil _)))))))) (MSub.refl _) ?_
        refine W_cond rfl (fun hc16 => ?_) (fun hc16 => ?_)
        · skip
          refine W_seq ?_
          refine W_region ?_
          refine L_assign rfl rfl ?_
          refine L_nil ?_
          refine W_ret ?_
          -- return 4 (R17)
          refine res1 rfl (ResOK.tmp rfl) ⟨?_, rfl⟩ (MSub.nil _)
          exfalso
          have hx5 : eqB (GT.dat r2_0) (GT.dat r1_0) = true := eqB_true.2 (by simp only [hn1, hr1_0, hn2, hr2_0])
          simp [hx5, hn1, hn2] at hc16 <;> omega
        · skip
          refine W_skip ?_
          refine W_seq ?_
          refine W_region ?_
          refine L_assign rfl rfl ?_
          refine L_nil ?_
          refine W_seq ?_
          have hc_r2_0 : Mv.cnt r2_0 ≤ 1000000000000 := cntv_le r2_0 rfl (by have := upLost_bd _ _ _ _ hr2_0; rw [bulk_dat hn2] at this; omega)
          refine W_region ?_
          refine L_loadW rfl rfl (by first | exact RdC.blk (by repeat (first | exact List.Mem.head _ | apply List.Mem.tail))) (by exact agg28) ?_
          refine L_move rfl rfl ?_
          refine L_call1 (h := treeH r2_0) rfl fn19 rfl (by repeat (first | exact Pick.here _ | apply Pick.there)) (by exact fun w hw => markUps_spec w r2_0 1 (by omega) (by omega)) ?_
          rintro v M1 ⟨hv, rfl⟩
          subst hv
          simp only [List.cons_append, List.nil_append]
          refine L_assign rfl rfl ?_
          refine L_nil ?_
          refine W_seq ?_
          refine W_region ?_
          refine L_assign rfl rfl ?_
          refine L_nil ?_
          refine W_seq ?_
          refine W_region ?_
          refine L_loadW rfl rfl (by first | exact RdC.blk (by repeat (first | exact List.Mem.head _ | apply List.Mem.tail))) (by exact agg28) ?_
          refine L_move rfl rfl ?_
          refine L_callX rfl fn20 rfl (by exact fun w hw => (by have h := heldUps_spec w r2_0 1 (by omega) (by omega) (rd_of_tree (by repeat (first | exact List.Mem.head _ | apply List.Mem.tail)) hw.sees); rw [Cv.eq] at h; exact h)) ?_
          refine L_assign rfl rfl ?_
          refine L_nil ?_
          refine W_seq ?_
          refine W_seq ?_
          refine W_region ?_
          refine L_move rfl rfl ?_
          refine L_binV rfl rfl rfl bv_lss ?_
          refine L_nil ?_
          refine W_weaken (l' := [(1, _), (2, _), (3, _), (8, _), (9, _), (11, _), (14, _), (15, _), (80, _)]) (Sub.cons rfl (Sub.cons rfl (Sub.cons rfl (Sub.cons rfl (Sub.cons rfl (Sub.cons rfl (Sub.cons rfl (Sub.cons rfl (Sub.cons rfl (Sub.nil _)))))))))) (MSub.refl _) ?_
          refine W_cond rfl (fun hc22 => ?_) (fun hc22 => ?_)
          · skip
            refine W_seq ?_
            refine W_region ?_
            refine L_assign rfl rfl ?_
            refine L_nil ?_
            refine W_ret ?_
            -- return 5 (R23)
            refine res1 rfl (ResOK.tmp rfl) ⟨?_, rfl⟩ (MSub.nil _)
            exfalso
            simp [hn1, hn2] at hc22 <;> omega
          · skip
            refine W_skip ?_
            refine W_seq ?_
            refine W_seq ?_
            refine W_region ?_
            refine L_move rfl rfl ?_
            refine L_move rfl rfl ?_
            refine L_binV rfl rfl rfl bv_neq ?_
            refine L_nil ?_
            refine W_weaken (l' := [(1, _), (2, _), (3, _), (8, _), (9, _), (11, _), (14, _), (83, _)]) (Sub.cons rfl (Sub.cons rfl (Sub.cons rfl (Sub.cons rfl (Sub.cons rfl (Sub.cons rfl (Sub.cons rfl (Sub.cons rfl (Sub.nil _))))))))) (MSub.refl _) ?_
            refine W_cond rfl (fun hc24 => ?_) (fun hc24 => ?_)
            · skip
              refine W_seq ?_
              refine W_region ?_
              refine L_assign rfl rfl ?_
              refine L_nil ?_
              refine W_ret ?_
              -- return 6 (R25)
              refine res1 rfl (ResOK.tmp rfl) ⟨?_, rfl⟩ (MSub.nil _)
              exfalso
              simp [hn1, hn2] at hc24 <;> omega
            · skip
              refine W_skip ?_
              refine W_seq ?_
              refine W_region ?_
              refine L_loadW rfl rfl (by first | exact RdC.blk (by repeat (first | exact List.Mem.head _ | apply List.Mem.tail))) (by exact agg24) ?_
              refine L_callR rfl fn16 rfl (by exact fun w hw => toUps_spec w _ (rd_carry h1 hw) (by omega)) ?_
              rintro v M1 ⟨n3, hv, hn3, rfl⟩
              subst hv
              simp only [List.cons_append, List.nil_append]
              refine L_move rfl rfl ?_
              refine L_move rfl rfl ?_
              refine L_callR rfl fn17 rfl (by exact fun w hw => iUpLost_spec w n3 t2 t3 (rd_of_tree (by repeat (first | exact List.Mem.head _ | apply List.Mem.tail)) hw.sees) (by rw [hn3]; exact ho1) ho2 ho3) ?_
              rintro v M1 ⟨r3_0, hv, hr3_0, rfl⟩
              subst hv
              simp only [List.cons_append, List.nil_append]
              refine L_move rfl rfl ?_
              refine L_extract rfl rfl rfl ?_
              refine L_extract rfl rfl rfl ?_
              refine L_alloc rfl zero28 (fun bk16 => ?_)
              refine L_storeW rfl rfl (by repeat (first | exact Pick.here _ | apply Pick.there)) (by exact agg28) (by rfl) (by first | (simp [Value.oneCell', TL.hdr]; done) | (simp [Value.oneCell', TL.hdr, Value.cells]; done) | exact fun v hv => GT.one _ v hv) ?_
              refine L_assign rfl rfl ?_
              refine L_nil ?_
              refine W_seq ?_
              refine W_seq ?_
              refine W_D0 [100] mix (by kernel_rfl) rfl ?_
              refine D_loadW GC.none (OpV.t rfl) (fun hg => (by first | exact RdC.blk (by repeat (first | exact List.Mem.head _ | apply List.Mem.tail)))) (by exact agg28) ?_
              refine D_loadW GC.none (OpV.t rfl) (fun hg => (by first | exact RdC.blk (by repeat (first | exact List.Mem.head _ | apply List.Mem.tail)))) (by exact agg28) ?_
              refine D_callX GC.none fn18 (OpVs.cons (OpV.t rfl) (OpVs.cons (OpV.t rfl) (OpVs.nil))) (by exact fun hg w F hF hM => eqUps_spec w r3_0 r1_0 (rd_of_tree (hM _ (by repeat (first | exact List.Mem.head _ | apply List.Mem.tail))) hF.sees) (rd_of_tree (hM _ (by repeat (first | exact List.Mem.head _ | apply List.Mem.tail))) hF.sees)) ?_
              refine D_not GC.none (OpV.t rfl) ?_
              refine D_move GC.none (OpV.t rfl) ?_
              refine D_move (GC.some rfl rfl) (OpV.t rfl) ?_
              refine D_move (GC.some rfl rfl) (OpV.t rfl) ?_
              refine D_bin (GC.some rfl rfl) (OpV.s rfl) (OpV.s rfl) (fun hg => (bv_bneq und4)) ?_
              refine D_or (cy := _) GC.none (OpV.t rfl) (OpV.s rfl) (fun h hb => ⟨h, hb⟩) ?_
              refine DV_nil ?_
              refine Give_is rfl rfl ?_
              refine Give_drop rfl ?_
              refine Give_drop rfl ?_
              refine Give_drop rfl ?_
              refine Give_drop rfl ?_
              refine Give_drop rfl ?_
              refine Give_drop rfl ?_
              refine Give_drop rfl ?_
              refine Give_drop rfl ?_
              refine Give_nil ?_
              refine W_weaken (l' := [(11, _), (14, _), (100, _)]) (Sub.cons rfl (Sub.cons rfl (Sub.cons rfl (Sub.nil _)))) (MSub.refl _) ?_
              refine W_cond rfl (fun hc27 => ?_) (fun hc27 => ?_)
              · skip
                refine W_seq ?_
                refine W_region ?_
                refine L_assign rfl rfl ?_
                refine L_nil ?_
                refine W_ret ?_
                -- return 7 (R28)
                refine res1 rfl (ResOK.tmp rfl) ⟨?_, rfl⟩ (MSub.nil _)
                exfalso
                have hx2 : eqB (GT.dat r3_0) (GT.dat r1_0) = true := eqB_true.2 (by simp only [hn1, hr1_0, hn2, hr2_0, hn3, hr3_0])
                simp [hx2, hn1, hn2, hn3] at hc27 <;> omega
              · skip
                refine W_skip ?_
                refine W_seq ?_
                refine W_region ?_
                refine L_assign rfl rfl ?_
                refine L_nil ?_
                refine W_seq ?_
                refine W_region ?_
                refine L_loadW rfl rfl (by first | exact RdC.blk (by repeat (first | exact List.Mem.head _ | apply List.Mem.tail))) (by exact agg28) ?_
                refine L_move rfl rfl ?_
                refine L_callX rfl fn20 rfl (by exact fun w hw => (by have h := heldUps_spec w r2_0 1 (by omega) (by omega) (rd_of_tree (by repeat (first | exact List.Mem.head _ | apply List.Mem.tail)) hw.sees); rw [Cv.eq] at h; exact h)) ?_
                refine L_assign rfl rfl ?_
                refine L_nil ?_
                refine W_seq ?_
                refine W_seq ?_
                refine W_region ?_
                refine L_move rfl rfl ?_
                refine L_binV rfl rfl rfl bv_lss ?_
                refine L_nil ?_
                refine W_weaken (l' := [(14, _), (15, _), (105, _)]) (Sub.cons rfl (Sub.cons rfl (Sub.cons rfl (Sub.nil _)))) (MSub.refl _) ?_
                refine W_cond rfl (fun hc31 => ?_) (fun hc31 => ?_)
                · skip
                  refine W_seq ?_
                  refine W_region ?_
                  refine L_assign rfl rfl ?_
                  refine L_nil ?_
                  refine W_ret ?_
                  -- return 8 (R32)
                  refine res1 rfl (ResOK.tmp rfl) ⟨?_, rfl⟩ (MSub.nil _)
                  exfalso
                  simp [hn1, hn2, hn3] at hc31 <;> omega
                · skip
                  refine W_skip ?_
                  refine W_seq ?_
                  refine W_seq ?_
                  refine W_region ?_
                  refine L_move rfl rfl ?_
                  refine L_move rfl rfl ?_
                  refine L_binV rfl rfl rfl bv_neq ?_
                  refine L_nil ?_
                  refine W_weaken (l' := [(108, _)]) (Sub.cons rfl (Sub.nil _)) (MSub.refl _) ?_
                  refine W_cond rfl (fun hc33 => ?_) (fun hc33 => ?_)
                  · skip
                    refine W_seq ?_
                    refine W_region ?_
                    refine L_assign rfl rfl ?_
                    refine L_nil ?_
                    refine W_ret ?_
                    -- return 9 (R34)
                    refine res1 rfl (ResOK.tmp rfl) ⟨?_, rfl⟩ (MSub.nil _)
                    exfalso
                    simp [hn1, hn2, hn3] at hc33 <;> omega
                  · skip
                    refine W_skip ?_
                    refine W_seq ?_
                    refine W_region ?_
                    refine L_assign rfl rfl ?_
                    refine L_nil ?_
                    refine W_ret ?_
                    -- return 10 (R35)
                    refine res1 rfl (ResOK.tmp rfl) ⟨?_, rfl⟩ (MSub.nil _)
                    rfl

end Go.Proofs.SL
