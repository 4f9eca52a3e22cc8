/- Walks of functions, each with the function on data that it follows. -/
import Derived.Test.YtndhmnoehapdhaaDoorLE
namespace Go.Proofs.SL
open Go
theorem fn64 : IsFn Tryd.prog 64 := ⟨_, Tryd.func64, by kernel_rfl, rfl⟩
noncomputable def i_BlobDrop (a0 : D_Blobs) (a1 : ByteArray) : Option (D_Blobs × Bool) :=
  Option.bind (i_BlobsOk (a0.1, a0.2)) (fun y1 => cond (!y1) (some ((0, ([] : List D_Blob)), false)) (Option.bind (i_copyBlobs (a0.1, a0.2)) (fun y3 => Option.bind (i_Blobs_at (a0.1, a0.2) a1) (fun y4 => cond (decide (y4 < 0)) (some ((y3.1, y3.2), false)) (Option.bind (delP y3.2 y4 (IntKind.wrap .i64 (y4 + 1))) (fun y6 => some ((y3.1, y6), true)))))))

theorem i_BlobDrop_walk (w : World) (a0 : T_Blobs) (a1 : ByteArray) (h0 : GT.rd w [] a0) (hg0 : GT.rd w [] gV0) (r : D_Blobs × Bool) (hp : i_BlobDrop (GT.dat a0) a1 = some r) : Spec Tryd.prog 19 [.agg (GT.cells a0).toArray, .string a1].toArray w [] (fun v M => ∃ (x0 : T_Blobs) (x1 : Bool), v = .tuple #[.agg (GT.cells x0).toArray, .bool x1] ∧ (GT.dat x0, GT.dat x1) = r ∧ M = [treeH x0]) := by
  obtain ⟨a0_1, a0_2⟩ := a0
  change Spec _ _ ([Value.agg #[.int .i64 a0_1, (TL.hdr a0_2)], .string a1] : List Value).toArray w [] _
  refine Spec.intro Tryd.func19 rfl Tryd.ntmps19 rfl ?_
  unfold i_BlobDrop at hp
  try dsimp only [dat_pair, dat_int, dat_bool, dat_str, dat_ar] at hp
  refine W_seq ?_
  refine W_region ?_
  refine L_box rfl rfl (fun bk2 => ?_)
  refine L_alloc rfl zero30 (fun bk4 => ?_)
  refine L_assign rfl rfl ?_
  refine L_nil ?_
  refine W_seq ?_
  refine W_seq ?_
  refine W_region ?_
  refine L_loadW rfl rfl (RdC.blk (by first | (with_reducible repeat (first | exact List.Mem.head _ | apply List.Mem.tail)); done | (repeat (first | exact List.Mem.head _ | apply List.Mem.tail)))) (by exact agg30) ?_
  have ho := hp; clear hp; obtain ⟨y1, hy1, hp⟩ := bind_any ho; clear ho
  refine L_callX rfl fn61 rfl (by exact fun w hw => i_BlobsOk_walk w (a0_1, a0_2) (RdT.now (RdT.pair RdT.int (RdT.old h0.2)) hw) (RdT.now (RdT.old hg0) hw) _ hy1) ?_
  refine L_not rfl rfl ?_
  refine L_nil ?_
  refine W_weaken (l' := [(1, _), (2, _), (4, _), (10, _)]) (Sub.cons rfl (Sub.cons rfl (Sub.cons rfl (Sub.cons rfl (Sub.nil _))))) (MSub.refl _) ?_
  refine W_cond rfl (fun hc2 => ?_) (fun hc2 => ?_)
  · skip
    replace hp := cond_t hc2 hp
    refine W_seq ?_
    refine W_region ?_
    refine L_build (xs := []) (cs := [.int .i64 0, (TL.hdr (TL.nil T_Blob 0))]) rfl rfl bld30 rfl ?_
    refine L_storeW rfl rfl (by first | (with_reducible repeat (first | exact Pick.here _ | apply Pick.there)); done | (repeat (first | exact Pick.here _ | apply Pick.there))) (by exact agg30) (by rfl) (by first | exact allOne rfl | exact fun v hv => GT.one _ v hv | (simp [Value.oneCell', TL.hdr, Value.cells]; done)) ?_
    refine L_assign rfl rfl ?_
    refine L_nil ?_
    obtain rfl := Option.some.inj hp
    refine W_conv (M' := treeH (TL.nil T_Blob 0) :: _) (fun w h => addNilT (τ := T_Blob) 0 h) ?_
    refine W_conv (M' := treeH ((0, (TL.nil T_Blob 0)) : Int × TL T_Blob) :: _) (fun w h => jnR (a := 0) (b := (TL.nil T_Blob 0)) (by first | (with_reducible repeat (first | exact Pick.here _ | apply Pick.there)); done | (repeat (first | exact Pick.here _ | apply Pick.there))) h) ?_
    refine W_ret ?_
    refine res2 rfl (ResOK.cell rfl (by first | (with_reducible repeat (first | exact List.Mem.head _ | apply List.Mem.tail)); done | (repeat (first | exact List.Mem.head _ | apply List.Mem.tail))) (by exact agg30)) (ResOK.tmp rfl) ⟨(0, (TL.nil T_Blob 0)), false, rfl, rfl, rfl⟩ (MSub.cons (by first | (with_reducible repeat (first | exact Pick.here _ | apply Pick.there)); done | (repeat (first | exact Pick.here _ | apply Pick.there))) (MSub.nil _))
  · skip
    replace hp := cond_f hc2 hp
    refine W_skip ?_
    refine W_seq ?_
    refine W_region ?_
    refine L_loadW rfl rfl (RdC.blk (by first | (with_reducible repeat (first | exact List.Mem.head _ | apply List.Mem.tail)); done | (repeat (first | exact List.Mem.head _ | apply List.Mem.tail)))) (by exact agg30) ?_
    have ho := hp; clear hp; obtain ⟨y3, hy3, hp⟩ := bind_any ho; clear ho
    refine L_callR rfl fn63 rfl (by exact fun w hw => i_copyBlobs_walk w (a0_1, a0_2) (RdT.now (RdT.pair RdT.int (RdT.old h0.2)) hw) _ hy3) ?_
    rintro vy3 My3 ⟨y3x0, hvy3, hdy3, rfl⟩
    subst hvy3
    subst hdy3
    obtain ⟨y3x0_1, y3x0_2⟩ := y3x0
    simp only [cells_pair, cells_int, cells_bool, cells_str, cells_TL, List.cons_append, List.nil_append]
    try dsimp only [dat_pair, dat_int, dat_bool, dat_str, dat_ar] at hp
    refine L_conv (M' := treeH y3x0_2 :: _) (fun w h => exR (a := y3x0_1) (by first | (with_reducible repeat (first | exact Pick.here _ | apply Pick.there)); done | (repeat (first | exact Pick.here _ | apply Pick.there))) h) ?_
    refine L_alloc rfl zero30 (fun bk6 => ?_)
    refine L_storeW rfl rfl (by first | (with_reducible repeat (first | exact Pick.here _ | apply Pick.there)); done | (repeat (first | exact Pick.here _ | apply Pick.there))) (by exact agg30) (by rfl) (by first | exact allOne rfl | exact fun v hv => GT.one _ v hv | (simp [Value.oneCell', TL.hdr, Value.cells]; done)) ?_
    refine L_nil ?_
    refine W_seq ?_
    refine W_region ?_
    refine L_loadW rfl rfl (RdC.blk (by first | (with_reducible repeat (first | exact List.Mem.head _ | apply List.Mem.tail)); done | (repeat (first | exact List.Mem.head _ | apply List.Mem.tail)))) (by exact agg30) ?_
    refine L_move rfl rfl ?_
    have ho := hp; clear hp; obtain ⟨y4, hy4, hp⟩ := bind_any ho; clear ho
    refine L_callX rfl fn60 rfl (by exact fun w hw => i_Blobs_at_walk w (a0_1, a0_2) a1 (RdT.now (RdT.pair RdT.int (RdT.old h0.2)) hw) _ hy4) ?_
    refine L_assign rfl rfl ?_
    refine L_nil ?_
    refine W_seq ?_
    refine W_seq ?_
    refine W_region ?_
    refine L_move rfl rfl ?_
    refine L_binV rfl rfl rfl bv_lss ?_
    refine L_nil ?_
    refine W_weaken (l' := [(4, _), (6, _), (7, _), (18, _)]) (Sub.cons rfl (Sub.cons rfl (Sub.cons rfl (Sub.cons rfl (Sub.nil _))))) (MSub.refl _) ?_
    refine W_cond rfl (fun hc5 => ?_) (fun hc5 => ?_)
    · skip
      replace hp := cond_t hc5 hp
      refine W_seq ?_
      refine W_region ?_
      refine L_loadW rfl rfl (RdC.blk (by first | (with_reducible repeat (first | exact List.Mem.head _ | apply List.Mem.tail)); done | (repeat (first | exact List.Mem.head _ | apply List.Mem.tail)))) (by exact agg30) ?_
      refine L_storeW rfl rfl (by first | (with_reducible repeat (first | exact Pick.here _ | apply Pick.there)); done | (repeat (first | exact Pick.here _ | apply Pick.there))) (by exact agg30) (by rfl) (by first | exact allOne rfl | exact fun v hv => GT.one _ v hv | (simp [Value.oneCell', TL.hdr, Value.cells]; done)) ?_
      refine L_assign rfl rfl ?_
      refine L_nil ?_
      obtain rfl := Option.some.inj hp
      refine W_conv (M' := treeH ((y3x0_1, y3x0_2) : Int × TL T_Blob) :: _) (fun w h => jnR (a := y3x0_1) (b := y3x0_2) (by first | (with_reducible repeat (first | exact Pick.here _ | apply Pick.there)); done | (repeat (first | exact Pick.here _ | apply Pick.there))) h) ?_
      refine W_ret ?_
      refine res2 rfl (ResOK.cell rfl (by first | (with_reducible repeat (first | exact List.Mem.head _ | apply List.Mem.tail)); done | (repeat (first | exact List.Mem.head _ | apply List.Mem.tail))) (by exact agg30)) (ResOK.tmp rfl) ⟨(y3x0_1, y3x0_2), false, rfl, rfl, rfl⟩ (MSub.cons (by first | (with_reducible repeat (first | exact Pick.here _ | apply Pick.there)); done | (repeat (first | exact Pick.here _ | apply Pick.there))) (MSub.nil _))
    · skip
      replace hp := cond_f hc5 hp
      refine W_skip ?_
      refine W_seq ?_
      refine W_region ?_
      refine L_fieldAddr rfl rfl fld30_1 ?_
      refine L_load rfl rfl (RdC.blk (by first | (with_reducible repeat (first | exact List.Mem.head _ | apply List.Mem.tail)); done | (repeat (first | exact List.Mem.head _ | apply List.Mem.tail)))) one28 rfl ?_
      refine L_move rfl rfl ?_
      refine L_move rfl rfl ?_
      refine L_binV rfl rfl rfl bv_add ?_
      have ho := hp; clear hp; obtain ⟨y6, hy6, hp⟩ := bind_any ho; clear ho
      refine L_callM [treeH y3x0_2] _ rfl fn64 rfl (perm_cons (by first | (with_reducible repeat (first | exact Pick.here _ | apply Pick.there)); done | (repeat (first | exact Pick.here _ | apply Pick.there))) (perm_nil_left _)) (by exact fun w hw => sl_Delete_implBlobimplBlob_walk w y3x0_2 y4 (IntKind.wrap .i64 (y4 + 1))  _ hy6) ?_
      rintro vy6 My6 ⟨y6x0, hvy6, hdy6, rfl⟩
      subst hvy6
      subst hdy6
      simp only [cells_pair, cells_int, cells_bool, cells_str, cells_TL, List.cons_append, List.nil_append]
      try dsimp only [dat_pair, dat_int, dat_bool, dat_str, dat_ar] at hp
      refine L_fieldAddr rfl rfl fld30_1 ?_
      refine L_store rfl rfl (by first | (with_reducible repeat (first | exact Pick.here _ | apply Pick.there)); done | (repeat (first | exact Pick.here _ | apply Pick.there))) one28 rfl rfl ?_
      refine L_nil ?_
      refine W_seq ?_
      refine W_region ?_
      refine L_loadW rfl rfl (RdC.blk (by first | (with_reducible repeat (first | exact List.Mem.head _ | apply List.Mem.tail)); done | (repeat (first | exact List.Mem.head _ | apply List.Mem.tail)))) (by exact agg30) ?_
      refine L_storeW rfl rfl (by first | (with_reducible repeat (first | exact Pick.here _ | apply Pick.there)); done | (repeat (first | exact Pick.here _ | apply Pick.there))) (by exact agg30) (by rfl) (by first | exact allOne rfl | exact fun v hv => GT.one _ v hv | (simp [Value.oneCell', TL.hdr, Value.cells]; done)) ?_
      refine L_assign rfl rfl ?_
      refine L_nil ?_
      obtain rfl := Option.some.inj hp
      refine W_conv (M' := treeH ((y3x0_1, y6x0) : Int × TL T_Blob) :: _) (fun w h => jnR (a := y3x0_1) (b := y6x0) (by first | (with_reducible repeat (first | exact Pick.here _ | apply Pick.there)); done | (repeat (first | exact Pick.here _ | apply Pick.there))) h) ?_
      refine W_ret ?_
      refine res2 rfl (ResOK.cell rfl (by first | (with_reducible repeat (first | exact List.Mem.head _ | apply List.Mem.tail)); done | (repeat (first | exact List.Mem.head _ | apply List.Mem.tail))) (by exact agg30)) (ResOK.tmp rfl) ⟨(y3x0_1, y6x0), true, rfl, rfl, rfl⟩ (MSub.cons (by first | (with_reducible repeat (first | exact Pick.here _ | apply Pick.there)); done | (repeat (first | exact Pick.here _ | apply Pick.there))) (MSub.nil _))

noncomputable def s_BlobDrop (a0 : D_Blobs) (a1 : ByteArray) : Option (D_Blobs × Bool) :=
  Option.bind (s_BlobsOk (a0.1, a0.2)) (fun y1 => cond (!y1) (some ((0, ([] : List D_Blob)), false)) (whileP (fun s3 : Int × (List D_Blob) => cond (decide (s3.1 < (a0.2.length : Int))) (Option.bind (idx a0.2 s3.1) (fun y5 => cond (!decide (y5.1 = a1)) (Option.bind (idx a0.2 s3.1) (fun y7 => Option.bind (appP s3.2 [(y7.1, y7.2.1, y7.2.2)]) (fun y9 => some (.inl ((IntKind.wrap .i64 (s3.1 + 1), y9)))))) (some (.inl ((IntKind.wrap .i64 (s3.1 + 1), s3.2)))))) (Option.map .inr (some ((a0.1, s3.2), decide ((s3.2.length : Int) < (a0.2.length : Int)))))) (0, ([] : List D_Blob))))

theorem s_BlobDrop_walk (w : World) (a0 : T_Blobs) (a1 : ByteArray) (h0 : GT.rd w [] a0) (r : D_Blobs × Bool) (hp : s_BlobDrop (GT.dat a0) a1 = some r) : Spec Tryd.prog 18 [.agg (GT.cells a0).toArray, .string a1].toArray w [] (fun v M => ∃ (x0 : T_Blobs) (x1 : Bool), v = .tuple #[.agg (GT.cells x0).toArray, .bool x1] ∧ (GT.dat x0, GT.dat x1) = r ∧ M = [treeH x0]) := by
  obtain ⟨a0_1, a0_2⟩ := a0
  change Spec _ _ ([Value.agg #[.int .i64 a0_1, (TL.hdr a0_2)], .string a1] : List Value).toArray w [] _
  refine Spec.intro Tryd.func18 rfl Tryd.ntmps18 rfl ?_
  unfold s_BlobDrop at hp
  try dsimp only [dat_pair, dat_int, dat_bool, dat_str, dat_ar] at hp
  refine W_seq ?_
  refine W_region ?_
  refine L_box rfl rfl (fun bk2 => ?_)
  refine L_alloc rfl zero30 (fun bk4 => ?_)
  refine L_assign rfl rfl ?_
  refine L_nil ?_
  refine W_seq ?_
  refine W_seq ?_
  refine W_region ?_
  refine L_loadW rfl rfl (RdC.blk (by first | (with_reducible repeat (first | exact List.Mem.head _ | apply List.Mem.tail)); done | (repeat (first | exact List.Mem.head _ | apply List.Mem.tail)))) (by exact agg30) ?_
  have ho := hp; clear hp; obtain ⟨y1, hy1, hp⟩ := bind_any ho; clear ho
  refine L_callX rfl fn40 rfl (by exact fun w hw => s_BlobsOk_walk w (a0_1, a0_2) (RdT.now (RdT.pair RdT.int (RdT.old h0.2)) hw) _ hy1) ?_
  refine L_not rfl rfl ?_
  refine L_nil ?_
  refine W_weaken (l' := [(1, _), (2, _), (4, _), (10, _)]) (Sub.cons rfl (Sub.cons rfl (Sub.cons rfl (Sub.cons rfl (Sub.nil _))))) (MSub.refl _) ?_
  refine W_cond rfl (fun hc2 => ?_) (fun hc2 => ?_)
  · skip
    replace hp := cond_t hc2 hp
    refine W_seq ?_
    refine W_region ?_
    refine L_build (xs := []) (cs := [.int .i64 0, (TL.hdr (TL.nil T_Blob 0))]) rfl rfl bld30 rfl ?_
    refine L_storeW rfl rfl (by first | (with_reducible repeat (first | exact Pick.here _ | apply Pick.there)); done | (repeat (first | exact Pick.here _ | apply Pick.there))) (by exact agg30) (by rfl) (by first | exact allOne rfl | exact fun v hv => GT.one _ v hv | (simp [Value.oneCell', TL.hdr, Value.cells]; done)) ?_
    refine L_assign rfl rfl ?_
    refine L_nil ?_
    obtain rfl := Option.some.inj hp
    refine W_conv (M' := treeH (TL.nil T_Blob 0) :: _) (fun w h => addNilT (τ := T_Blob) 0 h) ?_
    refine W_conv (M' := treeH ((0, (TL.nil T_Blob 0)) : Int × TL T_Blob) :: _) (fun w h => jnR (a := 0) (b := (TL.nil T_Blob 0)) (by first | (with_reducible repeat (first | exact Pick.here _ | apply Pick.there)); done | (repeat (first | exact Pick.here _ | apply Pick.there))) h) ?_
    refine W_ret ?_
    refine res2 rfl (ResOK.cell rfl (by first | (with_reducible repeat (first | exact List.Mem.head _ | apply List.Mem.tail)); done | (repeat (first | exact List.Mem.head _ | apply List.Mem.tail))) (by exact agg30)) (ResOK.tmp rfl) ⟨(0, (TL.nil T_Blob 0)), false, rfl, rfl, rfl⟩ (MSub.cons (by first | (with_reducible repeat (first | exact Pick.here _ | apply Pick.there)); done | (repeat (first | exact Pick.here _ | apply Pick.there))) (MSub.nil _))
  · skip
    replace hp := cond_f hc2 hp
    refine W_skip ?_
    refine W_seq ?_
    refine W_region ?_
    refine L_fieldAddr rfl rfl fld30_0 ?_
    refine L_load rfl rfl (RdC.blk (by first | (with_reducible repeat (first | exact List.Mem.head _ | apply List.Mem.tail)); done | (repeat (first | exact List.Mem.head _ | apply List.Mem.tail)))) one3 rfl ?_
    refine L_build (xs := [(0, .tmp 13)]) (cs := [.int .i64 a0_1, (TL.hdr (TL.nil T_Blob 0))]) rfl rfl bld30 rfl ?_
    refine L_alloc rfl zero30 (fun bk6 => ?_)
    refine L_storeW rfl rfl (by first | (with_reducible repeat (first | exact Pick.here _ | apply Pick.there)); done | (repeat (first | exact Pick.here _ | apply Pick.there))) (by exact agg30) (by rfl) (by first | exact allOne rfl | exact fun v hv => GT.one _ v hv | (simp [Value.oneCell', TL.hdr, Value.cells]; done)) ?_
    refine L_nil ?_
    refine W_seq ?_
    refine W_seq ?_
    refine W_region ?_
    refine L_assign rfl rfl ?_
    refine L_nil ?_
    refine W_block ?_
    refine W_conv (M' := treeH (TL.nil T_Blob 0) :: _) (fun w h => addNilT (τ := T_Blob) 0 h) ?_
    refine W_while (σ := Int × (TL T_Blob)) GT.dat (fun ((v3_0, v3_1) : Int × (TL T_Blob)) => [(7, .int .i64 v3_0)]) (fun ((v3_0, v3_1) : Int × (TL T_Blob)) => [blk bk6 [.int .i64 a0_1, (TL.hdr v3_1)] 30, treeH v3_1]) [(1, _), (2, _), (4, _), (6, _)] [blk bk2 _ _, blk bk4 _ _] (0, (TL.nil T_Blob 0)) hp (Sub.cons rfl (Sub.cons rfl (Sub.cons rfl (Sub.cons rfl (Sub.cons rfl (Sub.nil _)))))) (MSub.cons (by first | (with_reducible repeat (first | exact Pick.here _ | apply Pick.there)); done | (repeat (first | exact Pick.here _ | apply Pick.there))) (MSub.cons (by first | (with_reducible repeat (first | exact Pick.here _ | apply Pick.there)); done | (repeat (first | exact Pick.here _ | apply Pick.there))) (MSub.cons (by first | (with_reducible repeat (first | exact Pick.here _ | apply Pick.there)); done | (repeat (first | exact Pick.here _ | apply Pick.there))) (MSub.cons (by first | (with_reducible repeat (first | exact Pick.here _ | apply Pick.there)); done | (repeat (first | exact Pick.here _ | apply Pick.there))) (MSub.nil _))))) ?_
    clear hp
    rintro ⟨v3_0, v3_1⟩ x3 hp hx3
    try dsimp only [dat_pair, dat_int, dat_bool, dat_str, dat_ar] at hp
    refine W_weaken (l' := [(1, _), (2, _), (4, _), (6, _), (7, _)]) (Sub.cons rfl (Sub.cons rfl (Sub.cons rfl (Sub.cons rfl (Sub.cons rfl (Sub.nil _)))))) (M' := [_, _, _, _]) (MSub.cons (by first | (with_reducible repeat (first | exact Pick.here _ | apply Pick.there)); done | (repeat (first | exact Pick.here _ | apply Pick.there))) (MSub.cons (by first | (with_reducible repeat (first | exact Pick.here _ | apply Pick.there)); done | (repeat (first | exact Pick.here _ | apply Pick.there))) (MSub.cons (by first | (with_reducible repeat (first | exact Pick.here _ | apply Pick.there)); done | (repeat (first | exact Pick.here _ | apply Pick.there))) (MSub.cons (by first | (with_reducible repeat (first | exact Pick.here _ | apply Pick.there)); done | (repeat (first | exact Pick.here _ | apply Pick.there))) (MSub.nil _))))) ?_
    refine W_seq ?_
    refine W_seq ?_
    refine W_region ?_
    refine L_move rfl rfl ?_
    refine L_fieldAddr rfl rfl fld30_1 ?_
    refine L_load rfl rfl (RdC.blk (by first | (with_reducible repeat (first | exact List.Mem.head _ | apply List.Mem.tail)); done | (repeat (first | exact List.Mem.head _ | apply List.Mem.tail)))) one28 rfl ?_
    refine L_lenP (X := a0_2) rfl rfl el28 ?_
    refine L_binV rfl rfl rfl bv_lss ?_
    refine L_nil ?_
    refine W_weaken (l' := [(1, _), (2, _), (4, _), (6, _), (7, _), (19, _)]) (Sub.cons rfl (Sub.cons rfl (Sub.cons rfl (Sub.cons rfl (Sub.cons rfl (Sub.cons rfl (Sub.nil _))))))) (MSub.refl _) ?_
    refine W_cond rfl (fun hc4 => ?_) (fun hc4 => ?_)
    · skip
      replace hp := cond_t hc4 hp
      refine W_skip ?_
      refine W_seq ?_
      refine W_block ?_
      refine W_seq ?_
      refine W_region ?_
      refine L_fieldAddr rfl rfl fld30_1 ?_
      refine L_load rfl rfl (RdC.blk (by first | (with_reducible repeat (first | exact List.Mem.head _ | apply List.Mem.tail)); done | (repeat (first | exact List.Mem.head _ | apply List.Mem.tail)))) one28 rfl ?_
      refine L_move rfl rfl ?_
      have ho := hp; clear hp; obtain ⟨u5, hy5, hp⟩ := idx_bind ho; clear ho
      obtain ⟨u5_1, u5_2, u5_3⟩ := u5
      refine L_idxA (X := a0_2) rfl rfl rfl el28 (RdT.old h0.2) hy5 ?_
      refine L_fieldAddr rfl rfl fld89_0 ?_
      refine L_load rfl rfl (RdT.at (RdT.old h0.2) (hy5).2) one9 rfl ?_
      refine L_move rfl rfl ?_
      refine L_binV rfl rfl rfl bv_sneq ?_
      refine L_nil ?_
      refine W_weaken (l' := [(1, _), (2, _), (4, _), (6, _), (7, _), (29, _)]) (Sub.cons rfl (Sub.cons rfl (Sub.cons rfl (Sub.cons rfl (Sub.cons rfl (Sub.cons rfl (Sub.nil _))))))) (MSub.refl _) ?_
      refine W_cond rfl (fun hc6 => ?_) (fun hc6 => ?_)
      · skip
        replace hp := cond_t hc6 hp
        have ho := hp; clear hp; obtain ⟨u7, hy7, hp⟩ := idx_bind ho; clear ho
        obtain rfl : (u5_1, u5_2, u5_3) = u7 := Option.some.inj (hy5.2.symm.trans hy7.2)
        refine W_DS (pre := [_, _, _, _, _, _, _, _]) (suf := [_, _, _]) [31, 37] [] _ (perm_nil_left _) mix (by kernel_rfl) (by kernel_rfl) rfl ?_
        refine D_fieldAddr GC.none (OpV.t rfl) fld30_1 ?_
        refine D_load GC.none (OpV.t rfl) (fun hg => RdC.blk (by first | (with_reducible repeat (first | exact List.Mem.head _ | apply List.Mem.tail)); done | (repeat (first | exact List.Mem.head _ | apply List.Mem.tail)))) one28 rfl ?_
        refine D_fieldAddr GC.none (OpV.t rfl) fld30_1 ?_
        refine D_load GC.none (OpV.t rfl) (fun hg => RdC.blk (by first | (with_reducible repeat (first | exact List.Mem.head _ | apply List.Mem.tail)); done | (repeat (first | exact List.Mem.head _ | apply List.Mem.tail)))) one28 rfl ?_
        refine D_move GC.none (OpV.t rfl) ?_
        refine D_idxA (X := a0_2) GC.none (OpV.t rfl) (OpV.t rfl) el28 (RdT.old h0.2) (fun _ => hy5) ?_
        refine D_loadW GC.none (OpV.t rfl) (fun hg => RdT.at (RdT.old h0.2) (hy5).2) (by exact agg89) ?_
        refine D_bs1 (OpV.t rfl) el28 rfl (by decide) (by decide) rfl ?_
        refine DV_nil ?_
        refine Give_R rfl rfl ?_
        rintro vr37 Mr37 ⟨bb37, hvr37, rfl⟩
        subst hvr37
        simp only [List.cons_append, List.nil_append]
        refine Give_drop rfl ?_
        refine Give_drop rfl ?_
        refine Give_drop rfl ?_
        refine Give_drop rfl ?_
        refine Give_drop rfl ?_
        refine Give_is rfl rfl ?_
        refine Give_drop rfl ?_
        refine Give_nil ?_
        have ho := hp; clear hp; obtain ⟨y9, hy9, hp⟩ := bind_any ho; clear ho
        refine L_app1F (X := v3_1) ((u5_1, u5_2, u5_3) : T_Blob) rfl rfl rfl el28 rfl rfl (by first | (with_reducible repeat (first | exact Pick.here _ | apply Pick.there)); done | (repeat (first | exact Pick.here _ | apply Pick.there))) (by first | (with_reducible repeat (first | exact List.Mem.head _ | apply List.Mem.tail)); done | (repeat (first | exact List.Mem.head _ | apply List.Mem.tail)))  hy9 (by decide) (fun X8 hdX8 => ?_)
        subst hdX8
        refine L_fieldAddr rfl rfl fld30_1 ?_
        refine L_store rfl rfl (by first | (with_reducible repeat (first | exact Pick.here _ | apply Pick.there)); done | (repeat (first | exact Pick.here _ | apply Pick.there))) one28 rfl rfl ?_
        refine L_nil ?_
        refine W_region ?_
        refine L_move rfl rfl ?_
        refine L_binV rfl rfl rfl bv_add ?_
        refine L_assign rfl rfl ?_
        refine L_nil ?_
        exact ⟨(IntKind.wrap .i64 (v3_0 + 1), X8), (Sub.cons rfl (Sub.cons rfl (Sub.cons rfl (Sub.cons rfl (Sub.cons rfl (Sub.nil _)))))), (Arr.sub (MSub.cons (by first | (with_reducible repeat (first | exact Pick.here _ | apply Pick.there)); done | (repeat (first | exact Pick.here _ | apply Pick.there))) (MSub.cons (by first | (with_reducible repeat (first | exact Pick.here _ | apply Pick.there)); done | (repeat (first | exact Pick.here _ | apply Pick.there))) (MSub.cons (by first | (with_reducible repeat (first | exact Pick.here _ | apply Pick.there)); done | (repeat (first | exact Pick.here _ | apply Pick.there))) (MSub.cons (by first | (with_reducible repeat (first | exact Pick.here _ | apply Pick.there)); done | (repeat (first | exact Pick.here _ | apply Pick.there))) (MSub.nil _)))))), some_eq hp⟩
      · skip
        replace hp := cond_f hc6 hp
        refine W_skip ?_
        refine W_region ?_
        refine L_move rfl rfl ?_
        refine L_binV rfl rfl rfl bv_add ?_
        refine L_assign rfl rfl ?_
        refine L_nil ?_
        exact ⟨(IntKind.wrap .i64 (v3_0 + 1), v3_1), (Sub.cons rfl (Sub.cons rfl (Sub.cons rfl (Sub.cons rfl (Sub.cons rfl (Sub.nil _)))))), (Arr.sub (MSub.cons (by first | (with_reducible repeat (first | exact Pick.here _ | apply Pick.there)); done | (repeat (first | exact Pick.here _ | apply Pick.there))) (MSub.cons (by first | (with_reducible repeat (first | exact Pick.here _ | apply Pick.there)); done | (repeat (first | exact Pick.here _ | apply Pick.there))) (MSub.cons (by first | (with_reducible repeat (first | exact Pick.here _ | apply Pick.there)); done | (repeat (first | exact Pick.here _ | apply Pick.there))) (MSub.cons (by first | (with_reducible repeat (first | exact Pick.here _ | apply Pick.there)); done | (repeat (first | exact Pick.here _ | apply Pick.there))) (MSub.nil _)))))), some_eq hp⟩
    · skip
      replace hp := cond_f hc4 hp
      refine W_exit ?_
      have ho := hp; clear hp; obtain ⟨a10, hp, hx_a10⟩ := map_any ho; clear ho
      obtain rfl := hx3 _ hx_a10
      refine W_seq ?_
      refine W_DS (pre := [_, _, _, _, _, _, _, _, _, _]) (suf := []) [5] [blk bk4 _ _] _ (perm_cons (by first | (with_reducible repeat (first | exact Pick.here _ | apply Pick.there)); done | (repeat (first | exact Pick.here _ | apply Pick.there))) (perm_nil_left _)) mix (by kernel_rfl) (by kernel_rfl) rfl ?_
      refine D_loadW GC.none (OpV.t rfl) (fun hg => RdC.blk (by first | (with_reducible repeat (first | exact List.Mem.head _ | apply List.Mem.tail)); done | (repeat (first | exact List.Mem.head _ | apply List.Mem.tail)))) (by exact agg30) ?_
      refine D_fieldAddr GC.none (OpV.t rfl) fld30_1 ?_
      refine D_load GC.none (OpV.t rfl) (fun hg => RdC.blk (by first | (with_reducible repeat (first | exact List.Mem.head _ | apply List.Mem.tail)); done | (repeat (first | exact List.Mem.head _ | apply List.Mem.tail)))) one28 rfl ?_
      refine D_lenP (X := v3_1) GC.none (OpV.t rfl) el28 ?_
      refine D_fieldAddr GC.none (OpV.t rfl) fld30_1 ?_
      refine D_load GC.none (OpV.t rfl) (fun hg => RdC.blk (by first | (with_reducible repeat (first | exact List.Mem.head _ | apply List.Mem.tail)); done | (repeat (first | exact List.Mem.head _ | apply List.Mem.tail)))) one28 rfl ?_
      refine D_lenP (X := a0_2) GC.none (OpV.t rfl) el28 ?_
      refine D_bin GC.none (OpV.t rfl) (OpV.t rfl) (fun hg => bv_lss) ?_
      refine D_storeW (OpV.t rfl) (OpV.t rfl) (by first | (with_reducible repeat (first | exact Pick.here _ | apply Pick.there)); done | (repeat (first | exact Pick.here _ | apply Pick.there))) (by exact agg30) (by rfl) (by first | exact allOne rfl | exact fun v hv => GT.one _ v hv | (simp [Value.oneCell', TL.hdr, Value.cells]; done)) ?_
      refine D_assign GC.none (OpV.t rfl) ?_
      refine DV_nil ?_
      refine Give_is rfl rfl ?_
      refine Give_st ?_
      refine Give_drop rfl ?_
      refine Give_drop rfl ?_
      refine Give_drop rfl ?_
      refine Give_drop rfl ?_
      refine Give_drop rfl ?_
      refine Give_drop rfl ?_
      refine Give_drop rfl ?_
      refine Give_drop rfl ?_
      refine Give_nil ?_
      refine L_nil ?_
      obtain rfl := Option.some.inj hp
      refine W_conv (M' := treeH ((a0_1, v3_1) : Int × TL T_Blob) :: _) (fun w h => jnR (a := a0_1) (b := v3_1) (by first | (with_reducible repeat (first | exact Pick.here _ | apply Pick.there)); done | (repeat (first | exact Pick.here _ | apply Pick.there))) h) ?_
      refine W_ret ?_
      refine res2 rfl (ResOK.cell rfl (by first | (with_reducible repeat (first | exact List.Mem.head _ | apply List.Mem.tail)); done | (repeat (first | exact List.Mem.head _ | apply List.Mem.tail))) (by exact agg30)) (ResOK.tmp rfl) ⟨(a0_1, v3_1), decide (((GT.dat v3_1).length : Int) < ((GT.dat a0_2).length : Int)), rfl, rfl, rfl⟩ (MSub.cons (by first | (with_reducible repeat (first | exact Pick.here _ | apply Pick.there)); done | (repeat (first | exact Pick.here _ | apply Pick.there))) (MSub.nil _))

end Go.Proofs.SL
