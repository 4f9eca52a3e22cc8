/- The law FnExactBlobPut. -/
import Derived.Test.YtndhmnoehapdhaaDoorPKp
namespace Go.Proofs.SL
open Go

theorem bd_blobs (d : D_Blobs) : Bd.bd (τ := T_Blobs) d = d.2.length + bds T_Blob d.2 := by
  show 0 + (d.2.length + bds T_Blob d.2) = _
  omega
theorem bd_blob (x : D_Blob) : Bd.bd (τ := T_Blob) x = x.1.size + x.2.1.size := by
  show x.1.size + (x.2.1.size + 0) = _
  omega
theorem bds_setB (x : D_Blob) : ∀ l : List D_Blob, bds T_Blob (setB x l) ≤ bds T_Blob l + (x.1.size + x.2.1.size)
  | [] => by
    show Bd.bd (τ := T_Blob) x + 0 ≤ 0 + _
    rw [bd_blob]; omega
  | y :: ys => by
    unfold setB
    split
    · have := bds_setB x ys
      simp only [bds] at this ⊢
      omega
    · have h := bds_filter (τ := T_Blob) (fun z : D_Blob => !decide (z.1 = x.1)) (y :: ys)
      show Bd.bd (τ := T_Blob) x + bds T_Blob ((y :: ys).filter _) ≤ _
      rw [bd_blob]
      omega
theorem res_bd (t : T_Blobs) (c : ByteArray) (g : T_Blobs) (h : GT.dat g = (blobPutD (GT.dat t) c).1) : Bk.bulk g ≤ Bk.bulk t + 100 := by
  rw [Bd.eq, Bd.eq, h]
  generalize GT.dat t = d
  unfold blobPutD
  split
  · split
    · dsimp only; omega
    · split
      · dsimp only; omega
      · split
        · dsimp only
          rw [bd_blobs, bd_blobs]
          dsimp only
          have h1 := setB_len (short c, c, false) d.2
          have h2 := bds_setB (short c, c, false) d.2
          have h3 := short_size c
          dsimp only at h2
          omega
        · dsimp only; omega
  · show 0 + (0 + 0) ≤ _; omega

theorem fn20 : IsFn Tryd.prog 20 := ⟨_, Tryd.func20, by kernel_rfl, rfl⟩
theorem fn29 : IsFn Tryd.prog 29 := ⟨_, Tryd.func29, by kernel_rfl, rfl⟩
theorem fn30 : IsFn Tryd.prog 30 := ⟨_, Tryd.func30, by kernel_rfl, rfl⟩
theorem fn21 : IsFn Tryd.prog 21 := ⟨_, Tryd.func21, by kernel_rfl, rfl⟩
theorem sBlobPut_spec (w : World) (a0 : T_Blobs) (a1 : ByteArray) (h0 : GT.rd w [] a0) (ho0 : Ok.ok (GT.dat a0)) (ho1 : Ok.ok (GT.dat a1))  (hg0 : GT.rd w [] gV0) : Spec Tryd.prog 29 [.agg (GT.cells a0).toArray, .string a1].toArray w [] (fun v M => ∃ (x0 : T_Blobs), v = .tuple #[.agg (GT.cells x0).toArray, .string ((blobPutD (GT.dat a0) a1).2.1), .int .i64 ((blobPutD (GT.dat a0) a1).2.2)] ∧ GT.dat x0 = (blobPutD (GT.dat a0) a1).1 ∧ M = [treeH x0]) := (s_BlobPut_walk w a0 a1 h0 _ (s_BlobPut_eq ho0.2.1)).to fun v M ⟨x0, x1, x2, hv, hd, hM⟩ => by
  obtain rfl : x1 = (blobPutD (GT.dat a0) a1).2.1 := congrArg (fun z => z.2.1) hd
  obtain rfl : x2 = (blobPutD (GT.dat a0) a1).2.2 := congrArg (fun z => z.2.2) hd
  exact ⟨x0, hv, congrArg (fun z => z.1) hd, hM⟩
theorem iBlobPut_spec (w : World) (a0 : T_Blobs) (a1 : ByteArray) (h0 : GT.rd w [] a0) (ho0 : Ok.ok (GT.dat a0)) (ho1 : Ok.ok (GT.dat a1))  (hg0 : GT.rd w [] gV0) : Spec Tryd.prog 30 [.agg (GT.cells a0).toArray, .string a1].toArray w [] (fun v M => ∃ (x0 : T_Blobs), v = .tuple #[.agg (GT.cells x0).toArray, .string ((blobPutD (GT.dat a0) a1).2.1), .int .i64 ((blobPutD (GT.dat a0) a1).2.2)] ∧ GT.dat x0 = (blobPutD (GT.dat a0) a1).1 ∧ M = [treeH x0]) := (i_BlobPut_walk w a0 a1 h0 hg0 _ (i_BlobPut_eq ho0.2.1)).to fun v M ⟨x0, x1, x2, hv, hd, hM⟩ => by
  obtain rfl : x1 = (blobPutD (GT.dat a0) a1).2.1 := congrArg (fun z => z.2.1) hd
  obtain rfl : x2 = (blobPutD (GT.dat a0) a1).2.2 := congrArg (fun z => z.2.2) hd
  exact ⟨x0, hv, congrArg (fun z => z.1) hd, hM⟩
theorem lawFnExactBlobPut (w : World) (t1 : T_Blobs) (t2 : ByteArray) (h1 : GT.rd w [] t1) (h2 : GT.rd w [] t2) (ho1 : Ok.ok (GT.dat t1)) (ho2 : Ok.ok (GT.dat t2)) (hg0 : GT.rd w [] gV0) : Spec Tryd.prog 7 [.agg (GT.cells t1).toArray, .string t2].toArray w [] (IsV (.bool true)) := by
  refine Spec.intro Tryd.func7 rfl Tryd.ntmps7 rfl ?_
  refine W_seq ?_
  refine W_region ?_
  refine L_box rfl rfl (fun bk2 => ?_)
  refine L_assign rfl rfl ?_
  refine L_nil ?_
  refine W_seq ?_
  refine W_seq ?_
  refine W_region ?_
  refine L_move rfl rfl ?_
  refine L_lenT rfl rfl str9 ?_
  refine L_binV rfl rfl rfl bv_gtr ?_
  refine L_nil ?_
  refine W_weaken (l' := [(1, _), (2, _), (21, _)]) (Sub.cons rfl (Sub.cons rfl (Sub.cons rfl (Sub.nil _)))) (MSub.refl _) ?_
  refine W_cond rfl (fun hc1 => ?_) (fun hc1 => ?_)
  · skip
    skip
    refine W_seq ?_
    refine W_region ?_
    refine L_assign rfl rfl ?_
    refine L_nil ?_
    refine W_ret ?_
    -- return 1 (R2)
    refine res1 rfl (ResOK.tmp rfl) ⟨?_, rfl⟩ (MSub.nil _)
    rfl
  · skip
    have hb2 : (t2.size : Int) ≤ 1048576 := by
      simp only [decide_eq_false_iff_not] at hc1
      omega
    refine W_skip ?_
    refine W_seq ?_
    refine W_region ?_
    refine L_assign rfl rfl ?_
    refine L_nil ?_
    refine W_seq ?_
    refine W_region ?_
    refine L_loadW rfl rfl (by first | exact RdC.blk (by repeat (first | exact List.Mem.head _ | apply List.Mem.tail))) (by exact agg24) ?_
    refine L_move rfl rfl ?_
    refine L_callX rfl fn13 rfl (by exact fun w hw => szBlobs_spec w t1 (1048576) (by omega) (by omega) (rd_carry h1 hw) ho1) ?_
    refine L_assign rfl rfl ?_
    refine L_nil ?_
    refine W_seq ?_
    refine W_seq ?_
    refine W_region ?_
    refine L_move rfl rfl ?_
    refine L_binV rfl rfl rfl bv_lss ?_
    refine L_nil ?_
    refine W_weaken (l' := [(1, _), (2, _), (26, _)]) (Sub.cons rfl (Sub.cons rfl (Sub.cons rfl (Sub.nil _)))) (MSub.refl _) ?_
    refine W_cond rfl (fun hc5 => ?_) (fun hc5 => ?_)
    · skip
      refine W_seq ?_
      refine W_region ?_
      refine L_assign rfl rfl ?_
      refine L_nil ?_
      refine W_ret ?_
      -- return 2 (R6)
      refine res1 rfl (ResOK.tmp rfl) ⟨?_, rfl⟩ (MSub.nil _)
      rfl
    · skip
      have hb1 : (Bk.bulk t1 : Int) ≤ 1048576 := by
        rcases Int.decLt (1048576) (Bk.bulk t1 : Int) with hn | hn
        · omega
        · rw [if_neg (by omega)] at hc5; simp at hc5
      rw [if_pos hb1]
      refine W_skip ?_
      refine W_seq ?_
      refine W_region ?_
      refine L_loadW rfl rfl (by first | exact RdC.blk (by repeat (first | exact List.Mem.head _ | apply List.Mem.tail))) (by exact agg24) ?_
      refine L_callR rfl fn15 rfl (by exact fun w hw => toBlobs_spec w _ (rd_carry h1 hw) (by omega)) ?_
      rintro v M1 ⟨n1, hv, hn1, rfl⟩
      subst hv
      simp only [List.cons_append, List.nil_append]
      refine L_move rfl rfl ?_
      refine L_callR rfl fn29 rfl (by exact fun w hw => sBlobPut_spec w n1 t2 (rd_of_tree (by repeat (first | exact List.Mem.head _ | apply List.Mem.tail)) hw.sees) (by rw [hn1]; exact ho1) ho2 (rd_carry hg0 hw)) ?_
      rintro v M1 ⟨r1_0, hv, hr1_0, rfl⟩
      subst hv
      simp only [List.cons_append, List.nil_append]
      refine L_move rfl rfl ?_
      refine L_extract rfl rfl rfl ?_
      refine L_extract rfl rfl rfl ?_
      refine L_extract rfl rfl rfl ?_
      refine L_alloc rfl zero30 (fun bk6 => ?_)
      refine L_storeW rfl rfl (by repeat (first | exact Pick.here _ | apply Pick.there)) (by exact agg30) (by rfl) (by first | (simp [Value.oneCell', TL.hdr]; done) | (simp [Value.oneCell', TL.hdr, Value.cells]; done) | exact fun v hv => GT.one _ v hv) ?_
      refine L_assign rfl rfl ?_
      refine L_assign rfl rfl ?_
      refine L_nil ?_
      refine W_seq ?_
      refine W_region ?_
      refine L_loadW rfl rfl (by first | exact RdC.blk (by repeat (first | exact List.Mem.head _ | apply List.Mem.tail))) (by exact agg24) ?_
      refine L_callR rfl fn15 rfl (by exact fun w hw => toBlobs_spec w _ (rd_carry h1 hw) (by omega)) ?_
      rintro v M1 ⟨n2, hv, hn2, rfl⟩
      subst hv
      simp only [List.cons_append, List.nil_append]
      refine L_alloc rfl zero30 (fun bk9 => ?_)
      refine L_storeW rfl rfl (by repeat (first | exact Pick.here _ | apply Pick.there)) (by exact agg30) (by rfl) (by first | (simp [Value.oneCell', TL.hdr]; done) | (simp [Value.oneCell', TL.hdr, Value.cells]; done) | exact fun v hv => GT.one _ v hv) ?_
      refine L_nil ?_
      refine W_seq ?_
      refine W_region ?_
      refine L_loadW rfl rfl (by first | exact RdC.blk (by repeat (first | exact List.Mem.head _ | apply List.Mem.tail))) (by exact agg30) ?_
      refine L_move rfl rfl ?_
      refine L_callR rfl fn30 rfl (by exact fun w hw => iBlobPut_spec w n2 t2 (rd_of_tree (by repeat (first | exact List.Mem.head _ | apply List.Mem.tail)) hw.sees) (by rw [hn2]; exact ho1) ho2 (rd_carry hg0 hw)) ?_
      rintro v M1 ⟨r2_0, hv, hr2_0, rfl⟩
      subst hv
      simp only [List.cons_append, List.nil_append]
      refine L_move rfl rfl ?_
      refine L_extract rfl rfl rfl ?_
      refine L_extract rfl rfl rfl ?_
      refine L_extract rfl rfl rfl ?_
      refine L_alloc rfl zero30 (fun bk10 => ?_)
      refine L_storeW rfl rfl (by repeat (first | exact Pick.here _ | apply Pick.there)) (by exact agg30) (by rfl) (by first | (simp [Value.oneCell', TL.hdr]; done) | (simp [Value.oneCell', TL.hdr, Value.cells]; done) | exact fun v hv => GT.one _ v hv) ?_
      refine L_assign rfl rfl ?_
      refine L_assign rfl rfl ?_
      refine L_nil ?_
      refine W_seq ?_
      refine W_seq ?_
      refine W_D0 [57] mix (by kernel_rfl) rfl ?_
      refine D_loadW GC.none (OpV.t rfl) (fun hg => (by first | exact RdC.blk (by repeat (first | exact List.Mem.head _ | apply List.Mem.tail)))) (by exact agg30) ?_
      refine D_loadW GC.none (OpV.t rfl) (fun hg => (by first | exact RdC.blk (by repeat (first | exact List.Mem.head _ | apply List.Mem.tail)))) (by exact agg30) ?_
      refine D_callX GC.none fn17 (OpVs.cons (OpV.t rfl) (OpVs.cons (OpV.t rfl) (OpVs.nil))) (by exact fun hg w F hF hM => eqBlobs_spec w r2_0 r1_0 (rd_of_tree (hM _ (by repeat (first | exact List.Mem.head _ | apply List.Mem.tail))) hF.sees) (rd_of_tree (hM _ (by repeat (first | exact List.Mem.head _ | apply List.Mem.tail))) hF.sees)) ?_
      refine D_not GC.none (OpV.t rfl) ?_
      refine D_move GC.none (OpV.t rfl) ?_
      refine D_move (GC.some rfl rfl) (OpV.t rfl) ?_
      refine D_move (GC.some rfl rfl) (OpV.t rfl) ?_
      refine D_bin (GC.some rfl rfl) (OpV.s rfl) (OpV.s rfl) (fun hg => bv_sneq) ?_
      refine D_or (cy := _) GC.none (OpV.t rfl) (OpV.s rfl) (fun h hb => ⟨h, hb⟩) ?_
      refine D_move GC.none (OpV.t rfl) ?_
      refine D_move (GC.some rfl rfl) (OpV.t rfl) ?_
      refine D_move (GC.some rfl rfl) (OpV.t rfl) ?_
      refine D_bin (GC.some rfl rfl) (OpV.s rfl) (OpV.s rfl) (fun hg => bv_neq) ?_
      refine D_or (cy := _) GC.none (OpV.t rfl) (OpV.s rfl) (fun h hb => ⟨h, hb⟩) ?_
      refine DV_nil ?_
      refine Give_is rfl rfl ?_
      refine Give_drop rfl ?_
      refine Give_drop rfl ?_
      refine Give_drop rfl ?_
      refine Give_drop rfl ?_
      refine Give_drop rfl ?_
      refine Give_drop rfl ?_
      refine Give_drop rfl ?_
      refine Give_drop rfl ?_
      refine Give_drop rfl ?_
      refine Give_drop rfl ?_
      refine Give_drop rfl ?_
      refine Give_drop rfl ?_
      refine Give_drop rfl ?_
      refine Give_nil ?_
      refine W_weaken (l' := [(1, _), (2, _), (6, _), (7, _), (8, _), (9, _), (10, _), (11, _), (12, _), (57, _)]) (Sub.cons rfl (Sub.cons rfl (Sub.cons rfl (Sub.cons rfl (Sub.cons rfl (Sub.cons rfl (Sub.cons rfl (Sub.cons rfl (Sub.cons rfl (Sub.cons rfl (Sub.nil _))))))))))) (MSub.refl _) ?_
      refine W_cond rfl (fun hc10 => ?_) (fun hc10 => ?_)
      · skip
        refine W_seq ?_
        refine W_region ?_
        refine L_assign rfl rfl ?_
        refine L_nil ?_
        refine W_ret ?_
        -- return 3 (R11)
        refine res1 rfl (ResOK.tmp rfl) ⟨?_, rfl⟩ (MSub.nil _)
        exfalso
        have hx2 : eqB (GT.dat r2_0) (GT.dat r1_0) = true := eqB_true.2 (by simp only [hn1, hr1_0, hn2, hr2_0])
        simp [hx2, hn1, hn2] at hc10 <;> omega
      · skip
        refine W_skip ?_
        refine W_seq ?_
        refine W_seq ?_
        refine W_D0 [62] mix (by kernel_rfl) rfl ?_
        refine D_loadW GC.none (OpV.t rfl) (fun hg => (by first | exact RdC.blk (by repeat (first | exact List.Mem.head _ | apply List.Mem.tail)))) (by exact agg30) ?_
        refine D_loadW GC.none (OpV.t rfl) (fun hg => (by first | exact RdC.blk (by repeat (first | exact List.Mem.head _ | apply List.Mem.tail)))) (by exact agg24) ?_
        refine D_call1R (fun v M => ∃ m : T_Blobs, v = .agg (GT.cells m).toArray ∧ GT.dat m = GT.dat t1 ∧ M = [treeH m]) fn15 (OpVs.cons (OpV.t rfl) (OpVs.nil)) (by exact fun w F hF hM => (fun w hw => toBlobs_spec w _ (rd_carry h1 hw) (by omega)) w hF) ?_
        refine D_callR [_, _] (FC True (.bool true)) fn17 ⟨⟨_, rfl, fun _ _ h => h⟩, ⟨_, rfl, fun _ _ h => h⟩, trivial⟩ (by
          rintro w F vs hw hM ⟨v1, u1, M1, rfl, ⟨rfl, hx1, _⟩, _, v2, u2, M2, rfl, ⟨m2, rfl, hd2x, rfl⟩, hin, rfl⟩
          obtain rfl := hx1 trivial
          have h := eqBlobs_spec w n2 m2 (rd_of_tree (hM _ (by repeat (first | exact List.Mem.head _ | apply List.Mem.tail))) hw.sees) (rd_of_tree (hin _ (List.mem_singleton.2 rfl)) hw.sees)
          rw [eqB_true.2 (hn2.trans hd2x.symm)] at h
          exact h.toFC) ?_
        refine D_not GC.none (OpV.t rfl) ?_
        refine DV_nil ?_
        refine Give_is rfl rfl ?_
        refine Give_drop rfl ?_
        refine Give_drop rfl ?_
        refine Give_drop rfl ?_
        refine Give_drop rfl ?_
        refine Give_nil ?_
        refine W_weaken (l' := [(1, _), (2, _), (6, _), (7, _), (8, _), (9, _), (10, _), (11, _), (12, _), (62, _)]) (Sub.cons rfl (Sub.cons rfl (Sub.cons rfl (Sub.cons rfl (Sub.cons rfl (Sub.cons rfl (Sub.cons rfl (Sub.cons rfl (Sub.cons rfl (Sub.cons rfl (Sub.nil _))))))))))) (MSub.refl _) ?_
        refine W_condF rfl ?_
        refine W_skip ?_
        refine W_seq ?_
        refine W_region ?_
        refine L_assign rfl rfl ?_
        refine L_nil ?_
        refine W_seq ?_
        have hc_n2 : Mv.cnt n2 ≤ 1000000000000 := cntv_le n2 rfl (by rw [bulk_dat hn2]; omega)
        refine W_region ?_
        refine L_loadW rfl rfl (by first | exact RdC.blk (by repeat (first | exact List.Mem.head _ | apply List.Mem.tail))) (by exact agg30) ?_
        refine L_move rfl rfl ?_
        refine L_call1 (h := treeH n2) rfl fn20 rfl (by repeat (first | exact Pick.here _ | apply Pick.there)) (by exact fun w hw => markBlobs_spec w n2 1 (by omega) (by omega)) ?_
        rintro v M1 ⟨hv, rfl⟩
        subst hv
        simp only [List.cons_append, List.nil_append]
        refine L_assign rfl rfl ?_
        refine L_nil ?_
        refine W_seq ?_
        refine W_seq ?_
        refine W_D0 [83] mix (by kernel_rfl) rfl ?_
        refine D_move GC.none (OpV.t rfl) ?_
        refine D_bin GC.none (OpV.t rfl) OpV.c (fun hg => bv_lss) ?_
        refine D_move GC.none (OpV.t rfl) ?_
        refine D_loadW (GC.some rfl rfl) (OpV.t rfl) (fun hg => (by first | exact RdC.blk (by repeat (first | exact List.Mem.head _ | apply List.Mem.tail)))) (by exact agg30) ?_
        refine D_loadW (GC.some rfl rfl) (OpV.t rfl) (fun hg => (by first | exact RdC.blk (by repeat (first | exact List.Mem.head _ | apply List.Mem.tail)))) (by exact agg30) ?_
        refine D_callX (GC.some rfl rfl) fn17 (OpVs.cons (OpV.s rfl) (OpVs.cons (OpV.s rfl) (OpVs.nil))) (by exact fun hg w F hF hM => eqBlobs_spec w r2_0 r1_0 (rd_of_tree (hM _ (by repeat (first | exact List.Mem.head _ | apply List.Mem.tail))) hF.sees) (rd_of_tree (hM _ (by repeat (first | exact List.Mem.head _ | apply List.Mem.tail))) hF.sees)) ?_
        refine D_not (GC.some rfl rfl) (OpV.s rfl) ?_
        refine D_or (cy := _) GC.none (OpV.t rfl) (OpV.s rfl) (fun h hb => ⟨h, hb⟩) ?_
        refine D_move GC.none (OpV.t rfl) ?_
        refine D_move (GC.some rfl rfl) (OpV.t rfl) ?_
        refine D_move (GC.some rfl rfl) (OpV.t rfl) ?_
        refine D_bin (GC.some rfl rfl) (OpV.s rfl) (OpV.s rfl) (fun hg => bv_sneq) ?_
        refine D_or (cy := _) GC.none (OpV.t rfl) (OpV.s rfl) (fun h hb => ⟨h, hb⟩) ?_
        refine D_move GC.none (OpV.t rfl) ?_
        refine D_move (GC.some rfl rfl) (OpV.t rfl) ?_
        refine D_move (GC.some rfl rfl) (OpV.t rfl) ?_
        refine D_bin (GC.some rfl rfl) (OpV.s rfl) (OpV.s rfl) (fun hg => bv_neq) ?_
        refine D_or (cy := _) GC.none (OpV.t rfl) (OpV.s rfl) (fun h hb => ⟨h, hb⟩) ?_
        refine DV_nil ?_
        refine Give_is rfl rfl ?_
        refine Give_drop rfl ?_
        refine Give_drop rfl ?_
        refine Give_drop rfl ?_
        refine Give_drop rfl ?_
        refine Give_drop rfl ?_
        refine Give_drop rfl ?_
        refine Give_drop rfl ?_
        refine Give_drop rfl ?_
        refine Give_drop rfl ?_
        refine Give_drop rfl ?_
        refine Give_drop rfl ?_
        refine Give_drop rfl ?_
        refine Give_drop rfl ?_
        refine Give_drop rfl ?_
        refine Give_drop rfl ?_
        refine Give_drop rfl ?_
        refine Give_drop rfl ?_
        refine Give_nil ?_
        refine W_weaken (l' := [(1, _), (2, _), (6, _), (7, _), (8, _), (10, _), (83, _)]) (Sub.cons rfl (Sub.cons rfl (Sub.cons rfl (Sub.cons rfl (Sub.cons rfl (Sub.cons rfl (Sub.cons rfl (Sub.nil _)))))))) (MSub.refl _) ?_
        refine W_cond rfl (fun hc16 => ?_) (fun hc16 => ?_)
        · skip
          refine W_seq ?_
          refine W_region ?_
          refine L_assign rfl rfl ?_
          refine L_nil ?_
          refine W_ret ?_
          -- return 4 (R17)
          refine res1 rfl (ResOK.tmp rfl) ⟨?_, rfl⟩ (MSub.nil _)
          exfalso
          have hx5 : eqB (GT.dat r2_0) (GT.dat r1_0) = true := eqB_true.2 (by simp only [hn1, hr1_0, hn2, hr2_0])
          simp [hx5, hn1, hn2] at hc16 <;> omega
        · skip
          refine W_skip ?_
          refine W_seq ?_
          refine W_region ?_
          refine L_assign rfl rfl ?_
          refine L_nil ?_
          refine W_seq ?_
          have hc_r2_0 : Mv.cnt r2_0 ≤ 1000000000000 := cntv_le r2_0 rfl (by have := res_bd _ _ _ hr2_0; rw [bulk_dat hn2] at this; omega)
          refine W_region ?_
          refine L_loadW rfl rfl (by first | exact RdC.blk (by repeat (first | exact List.Mem.head _ | apply List.Mem.tail))) (by exact agg30) ?_
          refine L_move rfl rfl ?_
          refine L_call1 (h := treeH r2_0) rfl fn20 rfl (by repeat (first | exact Pick.here _ | apply Pick.there)) (by exact fun w hw => markBlobs_spec w r2_0 1 (by omega) (by omega)) ?_
          rintro v M1 ⟨hv, rfl⟩
          subst hv
          simp only [List.cons_append, List.nil_append]
          refine L_assign rfl rfl ?_
          refine L_nil ?_
          refine W_seq ?_
          refine W_region ?_
          refine L_assign rfl rfl ?_
          refine L_nil ?_
          refine W_seq ?_
          refine W_region ?_
          refine L_loadW rfl rfl (by first | exact RdC.blk (by repeat (first | exact List.Mem.head _ | apply List.Mem.tail))) (by exact agg30) ?_
          refine L_move rfl rfl ?_
          refine L_callX rfl fn21 rfl (by exact fun w hw => (by have h := heldBlobs_spec w r2_0 1 (by omega) (by omega) (rd_of_tree (by repeat (first | exact List.Mem.head _ | apply List.Mem.tail)) hw.sees); rw [Cv.eq] at h; exact h)) ?_
          refine L_assign rfl rfl ?_
          refine L_nil ?_
          refine W_seq ?_
          refine W_seq ?_
          refine W_region ?_
          refine L_move rfl rfl ?_
          refine L_binV rfl rfl rfl bv_lss ?_
          refine L_nil ?_
          refine W_weaken (l' := [(1, _), (2, _), (6, _), (7, _), (8, _), (10, _), (14, _), (15, _), (91, _)]) (Sub.cons rfl (Sub.cons rfl (Sub.cons rfl (Sub.cons rfl (Sub.cons rfl (Sub.cons rfl (Sub.cons rfl (Sub.cons rfl (Sub.cons rfl (Sub.nil _)))))))))) (MSub.refl _) ?_
          refine W_cond rfl (fun hc22 => ?_) (fun hc22 => ?_)
          · skip
            refine W_seq ?_
            refine W_region ?_
            refine L_assign rfl rfl ?_
            refine L_nil ?_
            refine W_ret ?_
            -- return 5 (R23)
            refine res1 rfl (ResOK.tmp rfl) ⟨?_, rfl⟩ (MSub.nil _)
            exfalso
            simp [hn1, hn2] at hc22 <;> omega
          · skip
            refine W_skip ?_
            refine W_seq ?_
            refine W_seq ?_
            refine W_region ?_
            refine L_move rfl rfl ?_
            refine L_move rfl rfl ?_
            refine L_binV rfl rfl rfl bv_neq ?_
            refine L_nil ?_
            refine W_weaken (l' := [(1, _), (2, _), (6, _), (7, _), (8, _), (10, _), (14, _), (94, _)]) (Sub.cons rfl (Sub.cons rfl (Sub.cons rfl (Sub.cons rfl (Sub.cons rfl (Sub.cons rfl (Sub.cons rfl (Sub.cons rfl (Sub.nil _))))))))) (MSub.refl _) ?_
            refine W_cond rfl (fun hc24 => ?_) (fun hc24 => ?_)
            · skip
              refine W_seq ?_
              refine W_region ?_
              refine L_assign rfl rfl ?_
              refine L_nil ?_
              refine W_ret ?_
              -- return 6 (R25)
              refine res1 rfl (ResOK.tmp rfl) ⟨?_, rfl⟩ (MSub.nil _)
              exfalso
              simp [hn1, hn2] at hc24 <;> omega
            · skip
              refine W_skip ?_
              refine W_seq ?_
              refine W_region ?_
              refine L_loadW rfl rfl (by first | exact RdC.blk (by repeat (first | exact List.Mem.head _ | apply List.Mem.tail))) (by exact agg24) ?_
              refine L_callR rfl fn15 rfl (by exact fun w hw => toBlobs_spec w _ (rd_carry h1 hw) (by omega)) ?_
              rintro v M1 ⟨n3, hv, hn3, rfl⟩
              subst hv
              simp only [List.cons_append, List.nil_append]
              refine L_move rfl rfl ?_
              refine L_callR rfl fn30 rfl (by exact fun w hw => iBlobPut_spec w n3 t2 (rd_of_tree (by repeat (first | exact List.Mem.head _ | apply List.Mem.tail)) hw.sees) (by rw [hn3]; exact ho1) ho2 (rd_carry hg0 hw)) ?_
              rintro v M1 ⟨r3_0, hv, hr3_0, rfl⟩
              subst hv
              simp only [List.cons_append, List.nil_append]
              refine L_move rfl rfl ?_
              refine L_extract rfl rfl rfl ?_
              refine L_extract rfl rfl rfl ?_
              refine L_extract rfl rfl rfl ?_
              refine L_alloc rfl zero30 (fun bk16 => ?_)
              refine L_storeW rfl rfl (by repeat (first | exact Pick.here _ | apply Pick.there)) (by exact agg30) (by rfl) (by first | (simp [Value.oneCell', TL.hdr]; done) | (simp [Value.oneCell', TL.hdr, Value.cells]; done) | exact fun v hv => GT.one _ v hv) ?_
              refine L_assign rfl rfl ?_
              refine L_assign rfl rfl ?_
              refine L_nil ?_
              refine W_seq ?_
              refine W_seq ?_
              refine W_D0 [116] mix (by kernel_rfl) rfl ?_
              refine D_loadW GC.none (OpV.t rfl) (fun hg => (by first | exact RdC.blk (by repeat (first | exact List.Mem.head _ | apply List.Mem.tail)))) (by exact agg30) ?_
              refine D_loadW GC.none (OpV.t rfl) (fun hg => (by first | exact RdC.blk (by repeat (first | exact List.Mem.head _ | apply List.Mem.tail)))) (by exact agg30) ?_
              refine D_callX GC.none fn17 (OpVs.cons (OpV.t rfl) (OpVs.cons (OpV.t rfl) (OpVs.nil))) (by exact fun hg w F hF hM => eqBlobs_spec w r3_0 r1_0 (rd_of_tree (hM _ (by repeat (first | exact List.Mem.head _ | apply List.Mem.tail))) hF.sees) (rd_of_tree (hM _ (by repeat (first | exact List.Mem.head _ | apply List.Mem.tail))) hF.sees)) ?_
              refine D_not GC.none (OpV.t rfl) ?_
              refine D_move GC.none (OpV.t rfl) ?_
              refine D_move (GC.some rfl rfl) (OpV.t rfl) ?_
              refine D_move (GC.some rfl rfl) (OpV.t rfl) ?_
              refine D_bin (GC.some rfl rfl) (OpV.s rfl) (OpV.s rfl) (fun hg => bv_sneq) ?_
              refine D_or (cy := _) GC.none (OpV.t rfl) (OpV.s rfl) (fun h hb => ⟨h, hb⟩) ?_
              refine D_move GC.none (OpV.t rfl) ?_
              refine D_move (GC.some rfl rfl) (OpV.t rfl) ?_
              refine D_move (GC.some rfl rfl) (OpV.t rfl) ?_
              refine D_bin (GC.some rfl rfl) (OpV.s rfl) (OpV.s rfl) (fun hg => bv_neq) ?_
              refine D_or (cy := _) GC.none (OpV.t rfl) (OpV.s rfl) (fun h hb => ⟨h, hb⟩) ?_
              refine DV_nil ?_
              refine Give_is rfl rfl ?_
              refine Give_drop rfl ?_
              refine Give_drop rfl ?_
              refine Give_drop rfl ?_
              refine Give_drop rfl ?_
              refine Give_drop rfl ?_
              refine Give_drop rfl ?_
              refine Give_drop rfl ?_
              refine Give_drop rfl ?_
              refine Give_drop rfl ?_
              refine Give_drop rfl ?_
              refine Give_drop rfl ?_
              refine Give_drop rfl ?_
              refine Give_drop rfl ?_
              refine Give_nil ?_
              refine W_weaken (l' := [(10, _), (14, _), (116, _)]) (Sub.cons rfl (Sub.cons rfl (Sub.cons rfl (Sub.nil _)))) (MSub.refl _) ?_
              refine W_cond rfl (fun hc27 => ?_) (fun hc27 => ?_)
              · skip
                refine W_seq ?_
                refine W_region ?_
                refine L_assign rfl rfl ?_
                refine L_nil ?_
                refine W_ret ?_
                -- return 7 (R28)
                refine res1 rfl (ResOK.tmp rfl) ⟨?_, rfl⟩ (MSub.nil _)
                exfalso
                have hx2 : eqB (GT.dat r3_0) (GT.dat r1_0) = true := eqB_true.2 (by simp only [hn1, hr1_0, hn2, hr2_0, hn3, hr3_0])
                simp [hx2, hn1, hn2, hn3] at hc27 <;> omega
              · skip
                refine W_skip ?_
                refine W_seq ?_
                refine W_region ?_
                refine L_assign rfl rfl ?_
                refine L_nil ?_
                refine W_seq ?_
                refine W_region ?_
                refine L_loadW rfl rfl (by first | exact RdC.blk (by repeat (first | exact List.Mem.head _ | apply List.Mem.tail))) (by exact agg30) ?_
                refine L_move rfl rfl ?_
                refine L_callX rfl fn21 rfl (by exact fun w hw => (by have h := heldBlobs_spec w r2_0 1 (by omega) (by omega) (rd_of_tree (by repeat (first | exact List.Mem.head _ | apply List.Mem.tail)) hw.sees); rw [Cv.eq] at h; exact h)) ?_
                refine L_assign rfl rfl ?_
                refine L_nil ?_
                refine W_seq ?_
                refine W_seq ?_
                refine W_region ?_
                refine L_move rfl rfl ?_
                refine L_binV rfl rfl rfl bv_lss ?_
                refine L_nil ?_
                refine W_weaken (l' := [(14, _), (15, _), (121, _)]) (Sub.cons rfl (Sub.cons rfl (Sub.cons rfl (Sub.nil _)))) (MSub.refl _) ?_
                refine W_cond rfl (fun hc31 => ?_) (fun hc31 => ?_)
                · skip
                  refine W_seq ?_
                  refine W_region ?_
                  refine L_assign rfl rfl ?_
                  refine L_nil ?_
                  refine W_ret ?_
                  -- return 8 (R32)
                  refine res1 rfl (ResOK.tmp rfl) ⟨?_, rfl⟩ (MSub.nil _)
                  exfalso
                  simp [hn1, hn2, hn3] at hc31 <;> omega
                · skip
                  refine W_skip ?_
                  refine W_seq ?_
                  refine W_seq ?_
                  refine W_region ?_
                  refine L_move rfl rfl ?_
                  refine L_move rfl rfl ?_
                  refine L_binV rfl rfl rfl bv_neq ?_
                  refine L_nil ?_
                  refine W_weaken (l' := [(124, _)]) (Sub.cons rfl (Sub.nil _)) (MSub.refl _) ?_
                  refine W_cond rfl (fun hc33 => ?_) (fun hc33 => ?_)
                  · skip
                    refine W_seq ?_
                    refine W_region ?_
                    refine L_assign rfl rfl ?_
                    refine L_nil ?_
                    refine W_ret ?_
                    -- return 9 (R34)
                    refine res1 rfl (ResOK.tmp rfl) ⟨?_, rfl⟩ (MSub.nil _)
                    exfalso
                    simp [hn1, hn2, hn3] at hc33 <;> omega
                  · skip
                    refine W_skip ?_
                    refine W_seq ?_
                    refine W_region ?_
                    refine L_assign rfl rfl ?_
                    refine L_nil ?_
                    refine W_ret ?_
                    -- return 10 (R35)
                    refine res1 rfl (ResOK.tmp rfl) ⟨?_, rfl⟩ (MSub.nil _)
                    rfl

end Go.Proofs.SL
