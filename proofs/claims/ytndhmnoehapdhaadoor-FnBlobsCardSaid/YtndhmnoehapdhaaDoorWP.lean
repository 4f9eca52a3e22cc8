/- Walks of functions, each with the function on data that it follows. -/
import Derived.Test.YtndhmnoehapdhaaDoorWM
import Derived.Test.YtndhmnoehapdhaaDoorLS
namespace Go.Proofs.SL
open Go
theorem bld89 : bldOf Tryd.prog 89 = some ([(0, 1), (1, 1), (2, 1)], [.string ByteArray.empty, .string ByteArray.empty, .bool false]) := by kernel_rfl
theorem fn69 : IsFn Tryd.prog 69 := ⟨_, Tryd.func69, by kernel_rfl, rfl⟩
noncomputable def i_BlobPut (a0 : D_Blobs) (a1 : ByteArray) : Option (D_Blobs × ByteArray × Int) :=
  Option.bind (i_BlobsOk (a0.1, a0.2)) (fun y1 => cond (!y1) (some ((0, ([] : List D_Blob)), ByteArray.empty, 1)) (Option.bind (i_copyBlobs (a0.1, a0.2)) (fun y3 => cond (decide (40 < (a1.size : Int))) (some ((y3.1, y3.2), ByteArray.empty, 1)) (Option.bind (i_Short a1) (fun y5 => Option.bind (i_Blobs_at (a0.1, a0.2) y5) (fun y6 => cond (decide (y6 < 0)) (Option.bind (appP y3.2 [(y5, a1, false)]) (fun y9 => Option.bind (sortBlobs y9) (fun y10 => Option.bind (i_BlobsOk (y3.1, y10)) (fun y11 => cond (!y11) (Option.bind (i_copyBlobs (a0.1, a0.2)) (fun y13 => some ((y13.1, y13.2), ByteArray.empty, 2))) (some ((y3.1, y10), y5, 0)))))) (Option.bind (idx a0.2 y6) (fun y14 => cond y14.2.2 (Option.bind (idx y3.2 y6) (fun y16 => Option.bind (some (y3.2.set (y6.toNat) (y5, a1, false))) (fun y17 => Option.bind (i_BlobsOk (y3.1, y17)) (fun y19 => cond (!y19) (Option.bind (i_copyBlobs (a0.1, a0.2)) (fun y21 => some ((y21.1, y21.2), ByteArray.empty, 2))) (some ((y3.1, y17), y5, 0)))))) (Option.bind (i_BlobsOk (y3.1, y3.2)) (fun y22 => cond (!y22) (Option.bind (i_copyBlobs (a0.1, a0.2)) (fun y24 => some ((y24.1, y24.2), ByteArray.empty, 2))) (some ((y3.1, y3.2), y5, 0))))))))))))

theorem i_BlobPut_walk (w : World) (a0 : T_Blobs) (a1 : ByteArray) (h0 : GT.rd w [] a0) (hg0 : GT.rd w [] gV0) (r : D_Blobs × ByteArray × Int) (hp : i_BlobPut (GT.dat a0) a1 = some r) : Spec Tryd.prog 30 [.agg (GT.cells a0).toArray, .string a1].toArray w [] (fun v M => ∃ (x0 : T_Blobs) (x1 : ByteArray) (x2 : Int), v = .tuple #[.agg (GT.cells x0).toArray, .string x1, .int .i64 x2] ∧ (GT.dat x0, GT.dat x1, GT.dat x2) = r ∧ M = [treeH x0]) := by
  obtain ⟨a0_1, a0_2⟩ := a0
  change Spec _ _ ([Value.agg #[.int .i64 a0_1, (TL.hdr a0_2)], .string a1] : List Value).toArray w [] _
  refine Spec.intro Tryd.func30 rfl Tryd.ntmps30 rfl ?_
  unfold i_BlobPut at hp
  try dsimp only [dat_pair, dat_int, dat_bool, dat_str, dat_ar] at hp
  refine W_seq ?_
  refine W_region ?_
  refine L_box rfl rfl (fun bk2 => ?_)
  refine L_alloc rfl zero30 (fun bk4 => ?_)
  refine L_assign rfl rfl ?_
  refine L_assign rfl rfl ?_
  refine L_nil ?_
  refine W_seq ?_
  refine W_seq ?_
  refine W_region ?_
  refine L_loadW rfl rfl (RdC.blk (by first | (with_reducible repeat (first | exact List.Mem.head _ | apply List.Mem.tail)); done | (repeat (first | exact List.Mem.head _ | apply List.Mem.tail)))) (by exact agg30) ?_
  have ho := hp; clear hp; obtain ⟨y1, hy1, hp⟩ := bind_any ho; clear ho
  refine L_callX rfl fn61 rfl (by exact fun w hw => i_BlobsOk_walk w (a0_1, a0_2) (RdT.now (RdT.pair RdT.int (RdT.old h0.2)) hw) (RdT.now (RdT.old hg0) hw) _ hy1) ?_
  refine L_not rfl rfl ?_
  refine L_nil ?_
  refine W_weaken (l' := [(1, _), (2, _), (4, _), (12, _)]) (Sub.cons rfl (Sub.cons rfl (Sub.cons rfl (Sub.cons rfl (Sub.nil _))))) (MSub.refl _) ?_
  refine W_cond rfl (fun hc2 => ?_) (fun hc2 => ?_)
  · skip
    replace hp := cond_t hc2 hp
    refine W_seq ?_
    refine W_region ?_
    refine L_build (xs := []) (cs := [.int .i64 0, (TL.hdr (TL.nil T_Blob 0))]) rfl rfl bld30 rfl ?_
    refine L_storeW rfl rfl (by first | (with_reducible repeat (first | exact Pick.here _ | apply Pick.there)); done | (repeat (first | exact Pick.here _ | apply Pick.there))) (by exact agg30) (by rfl) (by first | exact allOne rfl | exact fun v hv => GT.one _ v hv | (simp [Value.oneCell', TL.hdr, Value.cells]; done)) ?_
    refine L_assign rfl rfl ?_
    refine L_assign rfl rfl ?_
    refine L_nil ?_
    obtain rfl := Option.some.inj hp
    refine W_conv (M' := treeH (TL.nil T_Blob 0) :: _) (fun w h => addNilT (τ := T_Blob) 0 h) ?_
    refine W_conv (M' := treeH ((0, (TL.nil T_Blob 0)) : Int × TL T_Blob) :: _) (fun w h => jnR (a := 0) (b := (TL.nil T_Blob 0)) (by first | (with_reducible repeat (first | exact Pick.here _ | apply Pick.there)); done | (repeat (first | exact Pick.here _ | apply Pick.there))) h) ?_
    refine W_ret ?_
    refine res3 rfl (ResOK.cell rfl (by first | (with_reducible repeat (first | exact List.Mem.head _ | apply List.Mem.tail)); done | (repeat (first | exact List.Mem.head _ | apply List.Mem.tail))) (by exact agg30)) (ResOK.tmp rfl) (ResOK.tmp rfl) ⟨(0, (TL.nil T_Blob 0)), ByteArray.empty, 1, rfl, rfl, rfl⟩ (MSub.cons (by first | (with_reducible repeat (first | exact Pick.here _ | apply Pick.there)); done | (repeat (first | exact Pick.here _ | apply Pick.there))) (MSub.nil _))
  · skip
    replace hp := cond_f hc2 hp
    refine W_skip ?_
    refine W_seq ?_
    refine W_region ?_
    refine L_loadW rfl rfl (RdC.blk (by first | (with_reducible repeat (first | exact List.Mem.head _ | apply List.Mem.tail)); done | (repeat (first | exact List.Mem.head _ | apply List.Mem.tail)))) (by exact agg30) ?_
    have ho := hp; clear hp; obtain ⟨y3, hy3, hp⟩ := bind_any ho; clear ho
    refine L_callR rfl fn63 rfl (by exact fun w hw => i_copyBlobs_walk w (a0_1, a0_2) (RdT.now (RdT.pair RdT.int (RdT.old h0.2)) hw) _ hy3) ?_
    rintro vy3 My3 ⟨y3x0, hvy3, hdy3, rfl⟩
    subst hvy3
    subst hdy3
    obtain ⟨y3x0_1, y3x0_2⟩ := y3x0
    simp only [cells_pair, cells_int, cells_bool, cells_str, cells_TL, List.cons_append, List.nil_append]
    try dsimp only [dat_pair, dat_int, dat_bool, dat_str, dat_ar] at hp
    refine L_conv (M' := treeH y3x0_2 :: _) (fun w h => exR (a := y3x0_1) (by first | (with_reducible repeat (first | exact Pick.here _ | apply Pick.there)); done | (repeat (first | exact Pick.here _ | apply Pick.there))) h) ?_
    refine L_alloc rfl zero30 (fun bk7 => ?_)
    refine L_storeW rfl rfl (by first | (with_reducible repeat (first | exact Pick.here _ | apply Pick.there)); done | (repeat (first | exact Pick.here _ | apply Pick.there))) (by exact agg30) (by rfl) (by first | exact allOne rfl | exact fun v hv => GT.one _ v hv | (simp [Value.oneCell', TL.hdr, Value.cells]; done)) ?_
    refine L_nil ?_
    refine W_seq ?_
    refine W_seq ?_
    refine W_region ?_
    refine L_move rfl rfl ?_
    refine L_lenT rfl rfl str9 ?_
    refine L_binV rfl rfl rfl bv_gtr ?_
    refine L_nil ?_
    refine W_weaken (l' := [(1, _), (2, _), (4, _), (7, _), (18, _)]) (Sub.cons rfl (Sub.cons rfl (Sub.cons rfl (Sub.cons rfl (Sub.cons rfl (Sub.nil _)))))) (MSub.refl _) ?_
    refine W_cond rfl (fun hc4 => ?_) (fun hc4 => ?_)
    · skip
      replace hp := cond_t hc4 hp
      refine W_seq ?_
      refine W_region ?_
      refine L_loadW rfl rfl (RdC.blk (by first | (with_reducible repeat (first | exact List.Mem.head _ | apply List.Mem.tail)); done | (repeat (first | exact List.Mem.head _ | apply List.Mem.tail)))) (by exact agg30) ?_
      refine L_storeW rfl rfl (by first | (with_reducible repeat (first | exact Pick.here _ | apply Pick.there)); done | (repeat (first | exact Pick.here _ | apply Pick.there))) (by exact agg30) (by rfl) (by first | exact allOne rfl | exact fun v hv => GT.one _ v hv | (simp [Value.oneCell', TL.hdr, Value.cells]; done)) ?_
      refine L_assign rfl rfl ?_
      refine L_assign rfl rfl ?_
      refine L_nil ?_
      obtain rfl := Option.some.inj hp
      refine W_conv (M' := treeH ((y3x0_1, y3x0_2) : Int × TL T_Blob) :: _) (fun w h => jnR (a := y3x0_1) (b := y3x0_2) (by first | (with_reducible repeat (first | exact Pick.here _ | apply Pick.there)); done | (repeat (first | exact Pick.here _ | apply Pick.there))) h) ?_
      refine W_ret ?_
      refine res3 rfl (ResOK.cell rfl (by first | (with_reducible repeat (first | exact List.Mem.head _ | apply List.Mem.tail)); done | (repeat (first | exact List.Mem.head _ | apply List.Mem.tail))) (by exact agg30)) (ResOK.tmp rfl) (ResOK.tmp rfl) ⟨(y3x0_1, y3x0_2), ByteArray.empty, 1, rfl, rfl, rfl⟩ (MSub.cons (by first | (with_reducible repeat (first | exact Pick.here _ | apply Pick.there)); done | (repeat (first | exact Pick.here _ | apply Pick.there))) (MSub.nil _))
    · skip
      replace hp := cond_f hc4 hp
      refine W_skip ?_
      refine W_seq ?_
      refine W_region ?_
      refine L_move rfl rfl ?_
      have ho := hp; clear hp; obtain ⟨y5, hy5, hp⟩ := bind_any ho; clear ho
      refine L_callX rfl fn68 rfl (by exact fun w hw => i_Short_walk w a1 (RdT.now (RdT.old hg0) hw) _ hy5) ?_
      refine L_move rfl rfl ?_
      refine L_build (xs := [(0, .tmp 21), (1, .tmp 22)]) (cs := [.string y5, .string a1, .bool false]) rfl rfl bld89 rfl ?_
      refine L_alloc rfl zero89 (fun bk8 => ?_)
      refine L_storeW rfl rfl (by first | (with_reducible repeat (first | exact Pick.here _ | apply Pick.there)); done | (repeat (first | exact Pick.here _ | apply Pick.there))) (by exact agg89) (by rfl) (by first | exact allOne rfl | exact fun v hv => GT.one _ v hv | (simp [Value.oneCell', TL.hdr, Value.cells]; done)) ?_
      refine L_nil ?_
      refine W_seq ?_
      refine W_seq ?_
      refine W_region ?_
      refine L_loadW rfl rfl (RdC.blk (by first | (with_reducible repeat (first | exact List.Mem.head _ | apply List.Mem.tail)); done | (repeat (first | exact List.Mem.head _ | apply List.Mem.tail)))) (by exact agg30) ?_
      refine L_fieldAddr rfl rfl fld89_0 ?_
      refine L_load rfl rfl (RdC.blk (by first | (with_reducible repeat (first | exact List.Mem.head _ | apply List.Mem.tail)); done | (repeat (first | exact List.Mem.head _ | apply List.Mem.tail)))) one9 rfl ?_
      have ho := hp; clear hp; obtain ⟨y6, hy6, hp⟩ := bind_any ho; clear ho
      refine L_callX rfl fn60 rfl (by exact fun w hw => i_Blobs_at_walk w (a0_1, a0_2) y5 (RdT.now (RdT.pair RdT.int (RdT.old h0.2)) hw) _ hy6) ?_
      refine L_assign rfl rfl ?_
      refine L_nil ?_
      refine W_block ?_
      refine W_seq ?_
      refine W_region ?_
      refine L_move rfl rfl ?_
      refine L_binV rfl rfl rfl bv_lss ?_
      refine L_assign rfl rfl ?_
      refine L_nil ?_
      refine W_weaken (l' := [(2, _), (4, _), (7, _), (8, _), (9, _), (28, _)]) (Sub.cons rfl (Sub.cons rfl (Sub.cons rfl (Sub.cons rfl (Sub.cons rfl (Sub.cons rfl (Sub.nil _))))))) (MSub.refl _) ?_
      refine W_cond rfl (fun hc7 => ?_) (fun hc7 => ?_)
      · skip
        replace hp := cond_t hc7 hp
        refine W_seq ?_
        refine W_region ?_
        refine L_fieldAddr rfl rfl fld30_1 ?_
        refine L_load rfl rfl (RdC.blk (by first | (with_reducible repeat (first | exact List.Mem.head _ | apply List.Mem.tail)); done | (repeat (first | exact List.Mem.head _ | apply List.Mem.tail)))) one28 rfl ?_
        refine L_loadW rfl rfl (RdC.blk (by first | (with_reducible repeat (first | exact List.Mem.head _ | apply List.Mem.tail)); done | (repeat (first | exact List.Mem.head _ | apply List.Mem.tail)))) (by exact agg89) ?_
        refine L_buildSlice1 rfl rfl el28 rfl (by decide) (by decide) rfl (fun bb34 => ?_)
        have ho := hp; clear hp; obtain ⟨y9, hy9, hp⟩ := bind_any ho; clear ho
        refine L_app1F (X := y3x0_2) ((y5, a1, false) : T_Blob) rfl rfl rfl el28 rfl rfl (by first | (with_reducible repeat (first | exact Pick.here _ | apply Pick.there)); done | (repeat (first | exact Pick.here _ | apply Pick.there))) (by first | (with_reducible repeat (first | exact List.Mem.head _ | apply List.Mem.tail)); done | (repeat (first | exact List.Mem.head _ | apply List.Mem.tail)))  hy9 (by decide) (fun X8 hdX8 => ?_)
        subst hdX8
        refine L_fieldAddr rfl rfl fld30_1 ?_
        refine L_store rfl rfl (by first | (with_reducible repeat (first | exact Pick.here _ | apply Pick.there)); done | (repeat (first | exact Pick.here _ | apply Pick.there))) one28 rfl rfl ?_
        refine L_nil ?_
        refine W_region ?_
        refine L_fieldAddr rfl rfl fld30_1 ?_
        refine L_load rfl rfl (RdC.blk (by first | (with_reducible repeat (first | exact List.Mem.head _ | apply List.Mem.tail)); done | (repeat (first | exact List.Mem.head _ | apply List.Mem.tail)))) one28 rfl ?_
        have ho := hp; clear hp; obtain ⟨y10, hy10, hp⟩ := bind_any ho; clear ho
        refine L_callM [treeH X8] _ rfl fn69 rfl (perm_cons (by first | (with_reducible repeat (first | exact Pick.here _ | apply Pick.there)); done | (repeat (first | exact Pick.here _ | apply Pick.there))) (perm_nil_left _)) (by exact fun w hw => sl_SortFunc_Blob_walk w X8  _ hy10) ?_
        rintro vy10 My10 ⟨y10y0, hvy10, hdy10, rfl, hey10_0⟩
        subst hvy10
        subst hdy10
        try rw [← hey10_0]
        simp only [cells_pair, cells_int, cells_bool, cells_str, cells_TL, List.cons_append, List.nil_append]
        try dsimp only [dat_pair, dat_int, dat_bool, dat_str, dat_ar] at hp
        refine L_nil ?_
        refine W_seq ?_
        refine W_seq ?_
        refine W_region ?_
        refine L_loadW rfl rfl (RdC.blk (by first | (with_reducible repeat (first | exact List.Mem.head _ | apply List.Mem.tail)); done | (repeat (first | exact List.Mem.head _ | apply List.Mem.tail)))) (by exact agg30) ?_
        have ho := hp; clear hp; obtain ⟨y11, hy11, hp⟩ := bind_any ho; clear ho
        refine L_callX rfl fn61 rfl (by exact fun w hw => i_BlobsOk_walk w (y3x0_1, y10y0) (RdT.now (RdT.pair RdT.int (RdT.tree (by first | (with_reducible repeat (first | exact List.Mem.head _ | apply List.Mem.tail)); done | (repeat (first | exact List.Mem.head _ | apply List.Mem.tail))))) hw) (RdT.now (RdT.old hg0) hw) _ hy11) ?_
        refine L_not rfl rfl ?_
        refine L_nil ?_
        refine W_weaken (l' := [(2, _), (4, _), (7, _), (8, _), (54, _)]) (Sub.cons rfl (Sub.cons rfl (Sub.cons rfl (Sub.cons rfl (Sub.cons rfl (Sub.nil _)))))) (MSub.refl _) ?_
        refine W_cond rfl (fun hc12 => ?_) (fun hc12 => ?_)
        · skip
          replace hp := cond_t hc12 hp
          refine W_seq ?_
          refine W_region ?_
          refine L_loadW rfl rfl (RdC.blk (by first | (with_reducible repeat (first | exact List.Mem.head _ | apply List.Mem.tail)); done | (repeat (first | exact List.Mem.head _ | apply List.Mem.tail)))) (by exact agg30) ?_
          have ho := hp; clear hp; obtain ⟨y13, hy13, hp⟩ := bind_any ho; clear ho
          refine L_callR rfl fn63 rfl (by exact fun w hw => i_copyBlobs_walk w (a0_1, a0_2) (RdT.now (RdT.pair RdT.int (RdT.old h0.2)) hw) _ hy13) ?_
          rintro vy13 My13 ⟨y13x0, hvy13, hdy13, rfl⟩
          subst hvy13
          subst hdy13
          obtain ⟨y13x0_1, y13x0_2⟩ := y13x0
          simp only [cells_pair, cells_int, cells_bool, cells_str, cells_TL, List.cons_append, List.nil_append]
          try dsimp only [dat_pair, dat_int, dat_bool, dat_str, dat_ar] at hp
          refine L_conv (M' := treeH y13x0_2 :: _) (fun w h => exR (a := y13x0_1) (by first | (with_reducible repeat (first | exact Pick.here _ | apply Pick.there)); done | (repeat (first | exact Pick.here _ | apply Pick.there))) h) ?_
          refine L_storeW rfl rfl (by first | (with_reducible repeat (first | exact Pick.here _ | apply Pick.there)); done | (repeat (first | exact Pick.here _ | apply Pick.there))) (by exact agg30) (by rfl) (by first | exact allOne rfl | exact fun v hv => GT.one _ v hv | (simp [Value.oneCell', TL.hdr, Value.cells]; done)) ?_
          refine L_assign rfl rfl ?_
          refine L_assign rfl rfl ?_
          refine L_nil ?_
          obtain rfl := Option.some.inj hp
          refine W_conv (M' := treeH ((y13x0_1, y13x0_2) : Int × TL T_Blob) :: _) (fun w h => jnR (a := y13x0_1) (b := y13x0_2) (by first | (with_reducible repeat (first | exact Pick.here _ | apply Pick.there)); done | (repeat (first | exact Pick.here _ | apply Pick.there))) h) ?_
          refine W_ret ?_
          refine res3 rfl (ResOK.cell rfl (by first | (with_reducible repeat (first | exact List.Mem.head _ | apply List.Mem.tail)); done | (repeat (first | exact List.Mem.head _ | apply List.Mem.tail))) (by exact agg30)) (ResOK.tmp rfl) (ResOK.tmp rfl) ⟨(y13x0_1, y13x0_2), ByteArray.empty, 2, rfl, rfl, rfl⟩ (MSub.cons (by first | (with_reducible repeat (first | exact Pick.here _ | apply Pick.there)); done | (repeat (first | exact Pick.here _ | apply Pick.there))) (MSub.nil _))
        · skip
          replace hp := cond_f hc12 hp
          refine W_skip ?_
          refine W_seq ?_
          refine W_DS (pre := [_, _, _, _, _, _]) (suf := []) [5, 6] [blk bk4 _ _] _ (perm_cons (by first | (with_reducible repeat (first | exact Pick.here _ | apply Pick.there)); done | (repeat (first | exact Pick.here _ | apply Pick.there))) (perm_nil_left _)) mix (by kernel_rfl) (by kernel_rfl) rfl ?_
          refine D_loadW GC.none (OpV.t rfl) (fun hg => RdC.blk (by first | (with_reducible repeat (first | exact List.Mem.head _ | apply List.Mem.tail)); done | (repeat (first | exact List.Mem.head _ | apply List.Mem.tail)))) (by exact agg30) ?_
          refine D_fieldAddr GC.none (OpV.t rfl) fld89_0 ?_
          refine D_load GC.none (OpV.t rfl) (fun hg => RdC.blk (by first | (with_reducible repeat (first | exact List.Mem.head _ | apply List.Mem.tail)); done | (repeat (first | exact List.Mem.head _ | apply List.Mem.tail)))) one9 rfl ?_
          refine D_storeW (OpV.t rfl) (OpV.t rfl) (by first | (with_reducible repeat (first | exact Pick.here _ | apply Pick.there)); done | (repeat (first | exact Pick.here _ | apply Pick.there))) (by exact agg30) (by rfl) (by first | exact allOne rfl | exact fun v hv => GT.one _ v hv | (simp [Value.oneCell', TL.hdr, Value.cells]; done)) ?_
          refine D_assign GC.none (OpV.t rfl) ?_
          refine D_assign GC.none OpV.c ?_
          refine DV_nil ?_
          refine Give_is rfl rfl ?_
          refine Give_is rfl rfl ?_
          refine Give_st ?_
          refine Give_drop rfl ?_
          refine Give_drop rfl ?_
          refine Give_drop rfl ?_
          refine Give_nil ?_
          refine L_nil ?_
          obtain rfl := Option.some.inj hp
          refine W_conv (M' := treeH ((y3x0_1, y10y0) : Int × TL T_Blob) :: _) (fun w h => jnR (a := y3x0_1) (b := y10y0) (by first | (with_reducible repeat (first | exact Pick.here _ | apply Pick.there)); done | (repeat (first | exact Pick.here _ | apply Pick.there))) h) ?_
          refine W_ret ?_
          refine res3 rfl (ResOK.cell rfl (by first | (with_reducible repeat (first | exact List.Mem.head _ | apply List.Mem.tail)); done | (repeat (first | exact List.Mem.head _ | apply List.Mem.tail))) (by exact agg30)) (ResOK.tmp rfl) (ResOK.tmp rfl) ⟨(y3x0_1, y10y0), y5, 0, rfl, rfl, rfl⟩ (MSub.cons (by first | (with_reducible repeat (first | exact Pick.here _ | apply Pick.there)); done | (repeat (first | exact Pick.here _ | apply Pick.there))) (MSub.nil _))
      · skip
        replace hp := cond_f hc7 hp
        refine W_seq ?_
        refine W_region ?_
        refine L_fieldAddr rfl rfl fld30_1 ?_
        refine L_load rfl rfl (RdC.blk (by first | (with_reducible repeat (first | exact List.Mem.head _ | apply List.Mem.tail)); done | (repeat (first | exact List.Mem.head _ | apply List.Mem.tail)))) one28 rfl ?_
        refine L_move rfl rfl ?_
        have ho := hp; clear hp; obtain ⟨u14, hy14, hp⟩ := idx_bind ho; clear ho
        obtain ⟨u14_1, u14_2, u14_3⟩ := u14
        refine L_idxA (X := a0_2) rfl rfl rfl el28 (RdT.old h0.2) hy14 ?_
        refine L_fieldAddr rfl rfl fld89_2 ?_
        refine L_load rfl rfl (RdT.at (RdT.old h0.2) (hy14).2) one4 rfl ?_
        refine L_assign rfl rfl ?_
        refine L_nil ?_
        refine W_weaken (l' := [(2, _), (4, _), (7, _), (8, _), (9, _), (40, _)]) (Sub.cons rfl (Sub.cons rfl (Sub.cons rfl (Sub.cons rfl (Sub.cons rfl (Sub.cons rfl (Sub.nil _))))))) (MSub.refl _) ?_
        refine W_cond rfl (fun hc15 => ?_) (fun hc15 => ?_)
        · skip
          replace hp := cond_t hc15 hp
          refine W_region ?_
          refine L_fieldAddr rfl rfl fld30_1 ?_
          refine L_load rfl rfl (RdC.blk (by first | (with_reducible repeat (first | exact List.Mem.head _ | apply List.Mem.tail)); done | (repeat (first | exact List.Mem.head _ | apply List.Mem.tail)))) one28 rfl ?_
          refine L_move rfl rfl ?_
          refine L_loadW rfl rfl (RdC.blk (by first | (with_reducible repeat (first | exact List.Mem.head _ | apply List.Mem.tail)); done | (repeat (first | exact List.Mem.head _ | apply List.Mem.tail)))) (by exact agg89) ?_
          have ho := hp; clear hp; obtain ⟨u16, hy16, hp⟩ := idx_bind ho; clear ho
          obtain ⟨u16_1, u16_2, u16_3⟩ := u16
          refine L_idxA (X := y3x0_2) rfl rfl rfl el28 (RdT.tree (by first | (with_reducible repeat (first | exact List.Mem.head _ | apply List.Mem.tail)); done | (repeat (first | exact List.Mem.head _ | apply List.Mem.tail)))) hy16 ?_
          refine L_conv (M' := treeH (u16_1, u16_2, u16_3) :: holeH y3x0_2 (y6.toNat) (GT.cells (u16_1, u16_2, u16_3)) :: _) (fun w h => hole_open hy16.2 (by first | (with_reducible repeat (first | exact Pick.here _ | apply Pick.there)); done | (repeat (first | exact Pick.here _ | apply Pick.there))) h) ?_
          refine L_stH (X := y3x0_2) (i := y6.toNat) (sz := 3) (fo := 0) (n := 3) rfl rfl (by first | (with_reducible repeat (first | exact Pick.here _ | apply Pick.there)); done | (repeat (first | exact Pick.here _ | apply Pick.there))) rfl (.inl agg89) rfl (allOne rfl) (Nat.le_of_ble_eq_true rfl) ?_
          refine L_conv (M' := treeH ((y5, a1, false) : T_Blob) :: _) (fun w h => addF ((y5, a1, false) : T_Blob) h) ?_
          have ho := hp; clear hp; obtain ⟨y17, hy17, hp⟩ := bind_any ho; clear ho
          refine L_close (X := y3x0_2) ((y5, a1, false) : T_Blob) rfl (by first | (with_reducible repeat (first | exact Pick.here _ | apply Pick.there)); done | (repeat (first | exact Pick.here _ | apply Pick.there))) (by first | (with_reducible repeat (first | exact Pick.here _ | apply Pick.there)); done | (repeat (first | exact Pick.here _ | apply Pick.there))) hy17 (fun X18 hdX18 hhX18 => ?_)
          subst hdX18
          try rw [← hhX18]
          refine L_nil ?_
          refine W_seq ?_
          refine W_seq ?_
          refine W_region ?_
          refine L_loadW rfl rfl (RdC.blk (by first | (with_reducible repeat (first | exact List.Mem.head _ | apply List.Mem.tail)); done | (repeat (first | exact List.Mem.head _ | apply List.Mem.tail)))) (by exact agg30) ?_
          have ho := hp; clear hp; obtain ⟨y19, hy19, hp⟩ := bind_any ho; clear ho
          refine L_callX rfl fn61 rfl (by exact fun w hw => i_BlobsOk_walk w (y3x0_1, X18) (RdT.now (RdT.pair RdT.int (RdT.tree (by first | (with_reducible repeat (first | exact List.Mem.head _ | apply List.Mem.tail)); done | (repeat (first | exact List.Mem.head _ | apply List.Mem.tail))))) hw) (RdT.now (RdT.old hg0) hw) _ hy19) ?_
          refine L_not rfl rfl ?_
          refine L_nil ?_
          refine W_weaken (l' := [(2, _), (4, _), (7, _), (8, _), (54, _)]) (Sub.cons rfl (Sub.cons rfl (Sub.cons rfl (Sub.cons rfl (Sub.cons rfl (Sub.nil _)))))) (MSub.refl _) ?_
          refine W_cond rfl (fun hc20 => ?_) (fun hc20 => ?_)
          · skip
            replace hp := cond_t hc20 hp
            refine W_seq ?_
            refine W_region ?_
            refine L_loadW rfl rfl (RdC.blk (by first | (with_reducible repeat (first | exact List.Mem.head _ | apply List.Mem.tail)); done | (repeat (first | exact List.Mem.head _ | apply List.Mem.tail)))) (by exact agg30) ?_
            have ho := hp; clear hp; obtain ⟨y21, hy21, hp⟩ := bind_any ho; clear ho
            refine L_callR rfl fn63 rfl (by exact fun w hw => i_copyBlobs_walk w (a0_1, a0_2) (RdT.now (RdT.pair RdT.int (RdT.old h0.2)) hw) _ hy21) ?_
            rintro vy21 My21 ⟨y21x0, hvy21, hdy21, rfl⟩
            subst hvy21
            subst hdy21
            obtain ⟨y21x0_1, y21x0_2⟩ := y21x0
            simp only [cells_pair, cells_int, cells_bool, cells_str, cells_TL, List.cons_append, List.nil_append]
            try dsimp only [dat_pair, dat_int, dat_bool, dat_str, dat_ar] at hp
            refine L_conv (M' := treeH y21x0_2 :: _) (fun w h => exR (a := y21x0_1) (by first | (with_reducible repeat (first | exact Pick.here _ | apply Pick.there)); done | (repeat (first | exact Pick.here _ | apply Pick.there))) h) ?_
            refine L_storeW rfl rfl (by first | (with_reducible repeat (first | exact Pick.here _ | apply Pick.there)); done | (repeat (first | exact Pick.here _ | apply Pick.there))) (by exact agg30) (by rfl) (by first | exact allOne rfl | exact fun v hv => GT.one _ v hv | (simp [Value.oneCell', TL.hdr, Value.cells]; done)) ?_
            refine L_assign rfl rfl ?_
            refine L_assign rfl rfl ?_
            refine L_nil ?_
            obtain rfl := Option.some.inj hp
            refine W_conv (M' := treeH ((y21x0_1, y21x0_2) : Int × TL T_Blob) :: _) (fun w h => jnR (a := y21x0_1) (b := y21x0_2) (by first | (with_reducible repeat (first | exact Pick.here _ | apply Pick.there)); done | (repeat (first | exact Pick.here _ | apply Pick.there))) h) ?_
            refine W_ret ?_
            refine res3 rfl (ResOK.cell rfl (by first | (with_reducible repeat (first | exact List.Mem.head _ | apply List.Mem.tail)); done | (repeat (first | exact List.Mem.head _ | apply List.Mem.tail))) (by exact agg30)) (ResOK.tmp rfl) (ResOK.tmp rfl) ⟨(y21x0_1, y21x0_2), ByteArray.empty, 2, rfl, rfl, rfl⟩ (MSub.cons (by first | (with_reducible repeat (first | exact Pick.here _ | apply Pick.there)); done | (repeat (first | exact Pick.here _ | apply Pick.there))) (MSub.nil _))
          · skip
            replace hp := cond_f hc20 hp
            refine W_skip ?_
            refine W_seq ?_
            refine W_DS (pre := [_, _, _, _, _, _]) (suf := []) [5, 6] [blk bk4 _ _] _ (perm_cons (by first | (with_reducible repeat (first | exact Pick.here _ | apply Pick.there)); done | (repeat (first | exact Pick.here _ | apply Pick.there))) (perm_nil_left _)) mix (by kernel_rfl) (by kernel_rfl) rfl ?_
            refine D_loadW GC.none (OpV.t rfl) (fun hg => RdC.blk (by first | (with_reducible repeat (first | exact List.Mem.head _ | apply List.Mem.tail)); done | (repeat (first | exact List.Mem.head _ | apply List.Mem.tail)))) (by exact agg30) ?_
            refine D_fieldAddr GC.none (OpV.t rfl) fld89_0 ?_
            refine D_load GC.none (OpV.t rfl) (fun hg => RdC.blk (by first | (with_reducible repeat (first | exact List.Mem.head _ | apply List.Mem.tail)); done | (repeat (first | exact List.Mem.head _ | apply List.Mem.tail)))) one9 rfl ?_
            refine D_storeW (OpV.t rfl) (OpV.t rfl) (by first | (with_reducible repeat (first | exact Pick.here _ | apply Pick.there)); done | (repeat (first | exact Pick.here _ | apply Pick.there))) (by exact agg30) (by rfl) (by first | exact allOne rfl | exact fun v hv => GT.one _ v hv | (simp [Value.oneCell', TL.hdr, Value.cells]; done)) ?_
            refine D_assign GC.none (OpV.t rfl) ?_
            refine D_assign GC.none OpV.c ?_
            refine DV_nil ?_
            refine Give_is rfl rfl ?_
            refine Give_is rfl rfl ?_
            refine Give_st ?_
            refine Give_drop rfl ?_
            refine Give_drop rfl ?_
            refine Give_drop rfl ?_
            refine Give_nil ?_
            refine L_nil ?_
            obtain rfl := Option.some.inj hp
            refine W_conv (M' := treeH ((y3x0_1, X18) : Int × TL T_Blob) :: _) (fun w h => jnR (a := y3x0_1) (b := X18) (by first | (with_reducible repeat (first | exact Pick.here _ | apply Pick.there)); done | (repeat (first | exact Pick.here _ | apply Pick.there))) h) ?_
            refine W_ret ?_
            refine res3 rfl (ResOK.cell rfl (by first | (with_reducible repeat (first | exact List.Mem.head _ | apply List.Mem.tail)); done | (repeat (first | exact List.Mem.head _ | apply List.Mem.tail))) (by exact agg30)) (ResOK.tmp rfl) (ResOK.tmp rfl) ⟨(y3x0_1, X18), y5, 0, rfl, rfl, rfl⟩ (MSub.cons (by first | (with_reducible repeat (first | exact Pick.here _ | apply Pick.there)); done | (repeat (first | exact Pick.here _ | apply Pick.there))) (MSub.nil _))
        · skip
          replace hp := cond_f hc15 hp
          refine W_skip ?_
          refine W_seq ?_
          refine W_seq ?_
          refine W_region ?_
          refine L_loadW rfl rfl (RdC.blk (by first | (with_reducible repeat (first | exact List.Mem.head _ | apply List.Mem.tail)); done | (repeat (first | exact List.Mem.head _ | apply List.Mem.tail)))) (by exact agg30) ?_
          have ho := hp; clear hp; obtain ⟨y22, hy22, hp⟩ := bind_any ho; clear ho
          refine L_callX rfl fn61 rfl (by exact fun w hw => i_BlobsOk_walk w (y3x0_1, y3x0_2) (RdT.now (RdT.pair RdT.int (RdT.tree (by first | (with_reducible repeat (first | exact List.Mem.head _ | apply List.Mem.tail)); done | (repeat (first | exact List.Mem.head _ | apply List.Mem.tail))))) hw) (RdT.now (RdT.old hg0) hw) _ hy22) ?_
          refine L_not rfl rfl ?_
          refine L_nil ?_
          refine W_weaken (l' := [(2, _), (4, _), (7, _), (8, _), (54, _)]) (Sub.cons rfl (Sub.cons rfl (Sub.cons rfl (Sub.cons rfl (Sub.cons rfl (Sub.nil _)))))) (MSub.refl _) ?_
          refine W_cond rfl (fun hc23 => ?_) (fun hc23 => ?_)
          · skip
            replace hp := cond_t hc23 hp
            refine W_seq ?_
            refine W_region ?_
            refine L_loadW rfl rfl (RdC.blk (by first | (with_reducible repeat (first | exact List.Mem.head _ | apply List.Mem.tail)); done | (repeat (first | exact List.Mem.head _ | apply List.Mem.tail)))) (by exact agg30) ?_
            have ho := hp; clear hp; obtain ⟨y24, hy24, hp⟩ := bind_any ho; clear ho
            refine L_callR rfl fn63 rfl (by exact fun w hw => i_copyBlobs_walk w (a0_1, a0_2) (RdT.now (RdT.pair RdT.int (RdT.old h0.2)) hw) _ hy24) ?_
            rintro vy24 My24 ⟨y24x0, hvy24, hdy24, rfl⟩
            subst hvy24
            subst hdy24
            obtain ⟨y24x0_1, y24x0_2⟩ := y24x0
            simp only [cells_pair, cells_int, cells_bool, cells_str, cells_TL, List.cons_append, List.nil_append]
            try dsimp only [dat_pair, dat_int, dat_bool, dat_str, dat_ar] at hp
            refine L_conv (M' := treeH y24x0_2 :: _) (fun w h => exR (a := y24x0_1) (by first | (with_reducible repeat (first | exact Pick.here _ | apply Pick.there)); done | (repeat (first | exact Pick.here _ | apply Pick.there))) h) ?_
            refine L_storeW rfl rfl (by first | (with_reducible repeat (first | exact Pick.here _ | apply Pick.there)); done | (repeat (first | exact Pick.here _ | apply Pick.there))) (by exact agg30) (by rfl) (by first | exact allOne rfl | exact fun v hv => GT.one _ v hv | (simp [Value.oneCell', TL.hdr, Value.cells]; done)) ?_
            refine L_assign rfl rfl ?_
            refine L_assign rfl rfl ?_
            refine L_nil ?_
            obtain rfl := Option.some.inj hp
            refine W_conv (M' := treeH ((y24x0_1, y24x0_2) : Int × TL T_Blob) :: _) (fun w h => jnR (a := y24x0_1) (b := y24x0_2) (by first | (with_reducible repeat (first | exact Pick.here _ | apply Pick.there)); done | (repeat (first | exact Pick.here _ | apply Pick.there))) h) ?_
            refine W_ret ?_
            refine res3 rfl (ResOK.cell rfl (by first | (with_reducible repeat (first | exact List.Mem.head _ | apply List.Mem.tail)); done | (repeat (first | exact List.Mem.head _ | apply List.Mem.tail))) (by exact agg30)) (ResOK.tmp rfl) (ResOK.tmp rfl) ⟨(y24x0_1, y24x0_2), ByteArray.empty, 2, rfl, rfl, rfl⟩ (MSub.cons (by first | (with_reducible repeat (first | exact Pick.here _ | apply Pick.there)); done | (repeat (first | exact Pick.here _ | apply Pick.there))) (MSub.nil _))
          · skip
            replace hp := cond_f hc23 hp
            refine W_skip ?_
            refine W_seq ?_
            refine W_DS (pre := [_, _, _, _, _, _]) (suf := []) [5, 6] [blk bk4 _ _] _ (perm_cons (by first | (with_reducible repeat (first | exact Pick.here _ | apply Pick.there)); done | (repeat (first | exact Pick.here _ | apply Pick.there))) (perm_nil_left _)) mix (by kernel_rfl) (by kernel_rfl) rfl ?_
            refine D_loadW GC.none (OpV.t rfl) (fun hg => RdC.blk (by first | (with_reducible repeat (first | exact List.Mem.head _ | apply List.Mem.tail)); done | (repeat (first | exact List.Mem.head _ | apply List.Mem.tail)))) (by exact agg30) ?_
            refine D_fieldAddr GC.none (OpV.t rfl) fld89_0 ?_
            refine D_load GC.none (OpV.t rfl) (fun hg => RdC.blk (by first | (with_reducible repeat (first | exact List.Mem.head _ | apply List.Mem.tail)); done | (repeat (first | exact List.Mem.head _ | apply List.Mem.tail)))) one9 rfl ?_
            refine D_storeW (OpV.t rfl) (OpV.t rfl) (by first | (with_reducible repeat (first | exact Pick.here _ | apply Pick.there)); done | (repeat (first | exact Pick.here _ | apply Pick.there))) (by exact agg30) (by rfl) (by first | exact allOne rfl | exact fun v hv => GT.one _ v hv | (simp [Value.oneCell', TL.hdr, Value.cells]; done)) ?_
            refine D_assign GC.none (OpV.t rfl) ?_
            refine D_assign GC.none OpV.c ?_
            refine DV_nil ?_
            refine Give_is rfl rfl ?_
            refine Give_is rfl rfl ?_
            refine Give_st ?_
            refine Give_drop rfl ?_
            refine Give_drop rfl ?_
            refine Give_drop rfl ?_
            refine Give_nil ?_
            refine L_nil ?_
            obtain rfl := Option.some.inj hp
            refine W_conv (M' := treeH ((y3x0_1, y3x0_2) : Int × TL T_Blob) :: _) (fun w h => jnR (a := y3x0_1) (b := y3x0_2) (by first | (with_reducible repeat (first | exact Pick.here _ | apply Pick.there)); done | (repeat (first | exact Pick.here _ | apply Pick.there))) h) ?_
            refine W_ret ?_
            refine res3 rfl (ResOK.cell rfl (by first | (with_reducible repeat (first | exact List.Mem.head _ | apply List.Mem.tail)); done | (repeat (first | exact List.Mem.head _ | apply List.Mem.tail))) (by exact agg30)) (ResOK.tmp rfl) (ResOK.tmp rfl) ⟨(y3x0_1, y3x0_2), y5, 0, rfl, rfl, rfl⟩ (MSub.cons (by first | (with_reducible repeat (first | exact Pick.here _ | apply Pick.there)); done | (repeat (first | exact Pick.here _ | apply Pick.there))) (MSub.nil _))

noncomputable def s_BlobPut (a0 : D_Blobs) (a1 : ByteArray) : Option (D_Blobs × ByteArray × Int) :=
  Option.bind (s_BlobsOk (a0.1, a0.2)) (fun y1 => cond (!y1) (some ((0, ([] : List D_Blob)), ByteArray.empty, 1)) (cond (decide (40 < (a1.size : Int))) (Option.bind (s_l7Copy (a0.1, a0.2)) (fun y4 => some ((y4.1, y4.2), ByteArray.empty, 1))) (Option.bind (s_Short a1) (fun y5 => Option.bind (s_l7At (a0.1, a0.2) y5) (fun y6 => gb (decide (0 ≤ y6)) (idx a0.2 y6) (fun y7 => cond ((decide (0 ≤ y6)) && (!y7.2.2)) (Option.bind (s_l7Copy (a0.1, a0.2)) (fun y9 => some ((y9.1, y9.2), y5, 0))) (whileP (fun s10 : Bool × Int × (List D_Blob) => cond (decide (s10.2.1 < (a0.2.length : Int))) (jbind (gb (!s10.1) (idx a0.2 s10.2.1) (fun y13 => cond ((!s10.1) && (!sLt y13.1 y5)) (Option.bind (appP s10.2.2 [(y5, a1, false)]) (fun y16 => some (.inl ((true, y16))))) (some (.inl ((s10.1, s10.2.2)))))) (fun s12 : Bool × (List D_Blob) => Option.bind (idx a0.2 s10.2.1) (fun y17 => cond (!decide (y17.1 = y5)) (Option.bind (idx a0.2 s10.2.1) (fun y19 => Option.bind (appP s12.2 [(y19.1, y19.2.1, y19.2.2)]) (fun y21 => some (.inl ((s12.1, IntKind.wrap .i64 (s10.2.1 + 1), y21)))))) (some (.inl ((s12.1, IntKind.wrap .i64 (s10.2.1 + 1), s12.2))))))) (Option.map .inr (cond (!s10.1) (Option.bind (appP s10.2.2 [(y5, a1, false)]) (fun y25 => Option.bind (s_BlobsOk (a0.1, y25)) (fun y26 => cond (!y26) (Option.bind (s_l7Copy (a0.1, a0.2)) (fun y28 => some ((y28.1, y28.2), ByteArray.empty, 2))) (some ((a0.1, y25), y5, 0))))) (Option.bind (s_BlobsOk (a0.1, s10.2.2)) (fun y29 => cond (!y29) (Option.bind (s_l7Copy (a0.1, a0.2)) (fun y31 => some ((y31.1, y31.2), ByteArray.empty, 2))) (some ((a0.1, s10.2.2), y5, 0))))))) (false, 0, ([] : List D_Blob)))))))))

theorem s_BlobPut_walk (w : World) (a0 : T_Blobs) (a1 : ByteArray) (h0 : GT.rd w [] a0) (r : D_Blobs × ByteArray × Int) (hp : s_BlobPut (GT.dat a0) a1 = some r) : Spec Tryd.prog 29 [.agg (GT.cells a0).toArray, .string a1].toArray w [] (fun v M => ∃ (x0 : T_Blobs) (x1 : ByteArray) (x2 : Int), v = .tuple #[.agg (GT.cells x0).toArray, .string x1, .int .i64 x2] ∧ (GT.dat x0, GT.dat x1, GT.dat x2) = r ∧ M = [treeH x0]) := by
  obtain ⟨a0_1, a0_2⟩ := a0
  change Spec _ _ ([Value.agg #[.int .i64 a0_1, (TL.hdr a0_2)], .string a1] : List Value).toArray w [] _
  refine Spec.intro Tryd.func29 rfl Tryd.ntmps29 rfl ?_
  unfold s_BlobPut at hp
  try dsimp only [dat_pair, dat_int, dat_bool, dat_str, dat_ar] at hp
  refine W_seq ?_
  refine W_region ?_
  refine L_box rfl rfl (fun bk2 => ?_)
  refine L_alloc rfl zero30 (fun bk4 => ?_)
  refine L_assign rfl rfl ?_
  refine L_assign rfl rfl ?_
  refine L_nil ?_
  refine W_seq ?_
  refine W_seq ?_
  refine W_region ?_
  refine L_loadW rfl rfl (RdC.blk (by first | (with_reducible repeat (first | exact List.Mem.head _ | apply List.Mem.tail)); done | (repeat (first | exact List.Mem.head _ | apply List.Mem.tail)))) (by exact agg30) ?_
  have ho := hp; clear hp; obtain ⟨y1, hy1, hp⟩ := bind_any ho; clear ho
  refine L_callX rfl fn40 rfl (by exact fun w hw => s_BlobsOk_walk w (a0_1, a0_2) (RdT.now (RdT.pair RdT.int (RdT.old h0.2)) hw) _ hy1) ?_
  refine L_not rfl rfl ?_
  refine L_nil ?_
  refine W_weaken (l' := [(1, _), (2, _), (4, _), (14, _)]) (Sub.cons rfl (Sub.cons rfl (Sub.cons rfl (Sub.cons rfl (Sub.nil _))))) (MSub.refl _) ?_
  refine W_cond rfl (fun hc2 => ?_) (fun hc2 => ?_)
  · skip
    replace hp := cond_t hc2 hp
    refine W_seq ?_
    refine W_region ?_
    refine L_build (xs := []) (cs := [.int .i64 0, (TL.hdr (TL.nil T_Blob 0))]) rfl rfl bld30 rfl ?_
    refine L_storeW rfl rfl (by first | (with_reducible repeat (first | exact Pick.here _ | apply Pick.there)); done | (repeat (first | exact Pick.here _ | apply Pick.there))) (by exact agg30) (by rfl) (by first | exact allOne rfl | exact fun v hv => GT.one _ v hv | (simp [Value.oneCell', TL.hdr, Value.cells]; done)) ?_
    refine L_assign rfl rfl ?_
    refine L_assign rfl rfl ?_
    refine L_nil ?_
    obtain rfl := Option.some.inj hp
    refine W_conv (M' := treeH (TL.nil T_Blob 0) :: _) (fun w h => addNilT (τ := T_Blob) 0 h) ?_
    refine W_conv (M' := treeH ((0, (TL.nil T_Blob 0)) : Int × TL T_Blob) :: _) (fun w h => jnR (a := 0) (b := (TL.nil T_Blob 0)) (by first | (with_reducible repeat (first | exact Pick.here _ | apply Pick.there)); done | (repeat (first | exact Pick.here _ | apply Pick.there))) h) ?_
    refine W_ret ?_
    refine res3 rfl (ResOK.cell rfl (by first | (with_reducible repeat (first | exact List.Mem.head _ | apply List.Mem.tail)); done | (repeat (first | exact List.Mem.head _ | apply List.Mem.tail))) (by exact agg30)) (ResOK.tmp rfl) (ResOK.tmp rfl) ⟨(0, (TL.nil T_Blob 0)), ByteArray.empty, 1, rfl, rfl, rfl⟩ (MSub.cons (by first | (with_reducible repeat (first | exact Pick.here _ | apply Pick.there)); done | (repeat (first | exact Pick.here _ | apply Pick.there))) (MSub.nil _))
  · skip
    replace hp := cond_f hc2 hp
    refine W_skip ?_
    refine W_seq ?_
    refine W_seq ?_
    refine W_region ?_
    refine L_move rfl rfl ?_
    refine L_lenT rfl rfl str9 ?_
    refine L_binV rfl rfl rfl bv_gtr ?_
    refine L_nil ?_
    refine W_weaken (l' := [(1, _), (2, _), (4, _), (18, _)]) (Sub.cons rfl (Sub.cons rfl (Sub.cons rfl (Sub.cons rfl (Sub.nil _))))) (MSub.refl _) ?_
    refine W_cond rfl (fun hc3 => ?_) (fun hc3 => ?_)
    · skip
      replace hp := cond_t hc3 hp
      refine W_seq ?_
      refine W_region ?_
      refine L_loadW rfl rfl (RdC.blk (by first | (with_reducible repeat (first | exact List.Mem.head _ | apply List.Mem.tail)); done | (repeat (first | exact List.Mem.head _ | apply List.Mem.tail)))) (by exact agg30) ?_
      have ho := hp; clear hp; obtain ⟨y4, hy4, hp⟩ := bind_any ho; clear ho
      refine L_callR rfl fn67 rfl (by exact fun w hw => s_l7Copy_walk w (a0_1, a0_2) (RdT.now (RdT.pair RdT.int (RdT.old h0.2)) hw) _ hy4) ?_
      rintro vy4 My4 ⟨y4x0, hvy4, hdy4, rfl⟩
      subst hvy4
      subst hdy4
      obtain ⟨y4x0_1, y4x0_2⟩ := y4x0
      simp only [cells_pair, cells_int, cells_bool, cells_str, cells_TL, List.cons_append, List.nil_append]
      try dsimp only [dat_pair, dat_int, dat_bool, dat_str, dat_ar] at hp
      refine L_conv (M' := treeH y4x0_2 :: _) (fun w h => exR (a := y4x0_1) (by first | (with_reducible repeat (first | exact Pick.here _ | apply Pick.there)); done | (repeat (first | exact Pick.here _ | apply Pick.there))) h) ?_
      refine L_storeW rfl rfl (by first | (with_reducible repeat (first | exact Pick.here _ | apply Pick.there)); done | (repeat (first | exact Pick.here _ | apply Pick.there))) (by exact agg30) (by rfl) (by first | exact allOne rfl | exact fun v hv => GT.one _ v hv | (simp [Value.oneCell', TL.hdr, Value.cells]; done)) ?_
      refine L_assign rfl rfl ?_
      refine L_assign rfl rfl ?_
      refine L_nil ?_
      obtain rfl := Option.some.inj hp
      refine W_conv (M' := treeH ((y4x0_1, y4x0_2) : Int × TL T_Blob) :: _) (fun w h => jnR (a := y4x0_1) (b := y4x0_2) (by first | (with_reducible repeat (first | exact Pick.here _ | apply Pick.there)); done | (repeat (first | exact Pick.here _ | apply Pick.there))) h) ?_
      refine W_ret ?_
      refine res3 rfl (ResOK.cell rfl (by first | (with_reducible repeat (first | exact List.Mem.head _ | apply List.Mem.tail)); done | (repeat (first | exact List.Mem.head _ | apply List.Mem.tail))) (by exact agg30)) (ResOK.tmp rfl) (ResOK.tmp rfl) ⟨(y4x0_1, y4x0_2), ByteArray.empty, 1, rfl, rfl, rfl⟩ (MSub.cons (by first | (with_reducible repeat (first | exact Pick.here _ | apply Pick.there)); done | (repeat (first | exact Pick.here _ | apply Pick.there))) (MSub.nil _))
    · skip
      replace hp := cond_f hc3 hp
      refine W_skip ?_
      refine W_seq ?_
      refine W_region ?_
      refine L_move rfl rfl ?_
      have ho := hp; clear hp; obtain ⟨y5, hy5, hp⟩ := bind_any ho; clear ho
      refine L_callX rfl fn42 rfl (by exact fun w hw => s_Short_walk w a1  _ hy5) ?_
      refine L_assign rfl rfl ?_
      refine L_nil ?_
      refine W_seq ?_
      refine W_region ?_
      refine L_loadW rfl rfl (RdC.blk (by first | (with_reducible repeat (first | exact List.Mem.head _ | apply List.Mem.tail)); done | (repeat (first | exact List.Mem.head _ | apply List.Mem.tail)))) (by exact agg30) ?_
      refine L_move rfl rfl ?_
      have ho := hp; clear hp; obtain ⟨y6, hy6, hp⟩ := bind_any ho; clear ho
      refine L_callX rfl fn58 rfl (by exact fun w hw => s_l7At_walk w (a0_1, a0_2) y5 (RdT.now (RdT.pair RdT.int (RdT.old h0.2)) hw) _ hy6) ?_
      refine L_assign rfl rfl ?_
      refine L_nil ?_
      refine W_seq ?_
      refine W_seq ?_
      have ho := hp; clear hp; obtain ⟨u7, hy7, hp⟩ := idx_gb ho; clear ho
      obtain ⟨u7_1, u7_2, u7_3⟩ := u7
      refine W_D0 [36] mix (by kernel_rfl) rfl ?_
      refine D_move GC.none (OpV.t rfl) ?_
      refine D_bin GC.none (OpV.t rfl) OpV.c (fun hg => bv_geq) ?_
      refine D_move GC.none (OpV.t rfl) ?_
      refine D_fieldAddr (GC.some rfl rfl) (OpV.t rfl) fld30_1 ?_
      refine D_load (GC.some rfl rfl) (OpV.s rfl) (fun hg => RdC.blk (by first | (with_reducible repeat (first | exact List.Mem.head _ | apply List.Mem.tail)); done | (repeat (first | exact List.Mem.head _ | apply List.Mem.tail)))) one28 rfl ?_
      refine D_move (GC.some rfl rfl) (OpV.t rfl) ?_
      refine D_idxA (X := a0_2) (GC.some rfl rfl) (OpV.s rfl) (OpV.s rfl) el28 (RdT.old h0.2) (fun hg => hy7 hg.2) ?_
      refine D_fieldAddr (GC.some rfl rfl) (OpV.s rfl) fld89_2 ?_
      refine D_load (GC.some rfl rfl) (OpV.s rfl) (fun hg => RdT.at (RdT.old h0.2) (hy7 hg.2).2) one4 rfl ?_
      refine D_not (GC.some rfl rfl) (OpV.s rfl) ?_
      refine D_and (cy := _) GC.none (OpV.t rfl) (OpV.s rfl) (fun h hb => ⟨h, hb⟩) ?_
      refine DV_nil ?_
      refine Give_is rfl rfl ?_
      refine Give_drop rfl ?_
      refine Give_drop rfl ?_
      refine Give_drop rfl ?_
      refine Give_drop rfl ?_
      refine Give_drop rfl ?_
      refine Give_drop rfl ?_
      refine Give_drop rfl ?_
      refine Give_drop rfl ?_
      refine Give_drop rfl ?_
      refine Give_drop rfl ?_
      refine Give_nil ?_
      refine W_weaken (l' := [(1, _), (2, _), (4, _), (7, _), (36, _)]) (Sub.cons rfl (Sub.cons rfl (Sub.cons rfl (Sub.cons rfl (Sub.cons rfl (Sub.nil _)))))) (MSub.refl _) ?_
      refine W_cond rfl (fun hc8 => ?_) (fun hc8 => ?_)
      · skip
        replace hp := cond_t hc8 hp
        refine W_seq ?_
        refine W_region ?_
        refine L_loadW rfl rfl (RdC.blk (by first | (with_reducible repeat (first | exact List.Mem.head _ | apply List.Mem.tail)); done | (repeat (first | exact List.Mem.head _ | apply List.Mem.tail)))) (by exact agg30) ?_
        have ho := hp; clear hp; obtain ⟨y9, hy9, hp⟩ := bind_any ho; clear ho
        refine L_callR rfl fn67 rfl (by exact fun w hw => s_l7Copy_walk w (a0_1, a0_2) (RdT.now (RdT.pair RdT.int (RdT.old h0.2)) hw) _ hy9) ?_
        rintro vy9 My9 ⟨y9x0, hvy9, hdy9, rfl⟩
        subst hvy9
        subst hdy9
        obtain ⟨y9x0_1, y9x0_2⟩ := y9x0
        simp only [cells_pair, cells_int, cells_bool, cells_str, cells_TL, List.cons_append, List.nil_append]
        try dsimp only [dat_pair, dat_int, dat_bool, dat_str, dat_ar] at hp
        refine L_conv (M' := treeH y9x0_2 :: _) (fun w h => exR (a := y9x0_1) (by first | (with_reducible repeat (first | exact Pick.here _ | apply Pick.there)); done | (repeat (first | exact Pick.here _ | apply Pick.there))) h) ?_
        refine L_move rfl rfl ?_
        refine L_storeW rfl rfl (by first | (with_reducible repeat (first | exact Pick.here _ | apply Pick.there)); done | (repeat (first | exact Pick.here _ | apply Pick.there))) (by exact agg30) (by rfl) (by first | exact allOne rfl | exact fun v hv => GT.one _ v hv | (simp [Value.oneCell', TL.hdr, Value.cells]; done)) ?_
        refine L_assign rfl rfl ?_
        refine L_assign rfl rfl ?_
        refine L_nil ?_
        obtain rfl := Option.some.inj hp
        refine W_conv (M' := treeH ((y9x0_1, y9x0_2) : Int × TL T_Blob) :: _) (fun w h => jnR (a := y9x0_1) (b := y9x0_2) (by first | (with_reducible repeat (first | exact Pick.here _ | apply Pick.there)); done | (repeat (first | exact Pick.here _ | apply Pick.there))) h) ?_
        refine W_ret ?_
        refine res3 rfl (ResOK.cell rfl (by first | (with_reducible repeat (first | exact List.Mem.head _ | apply List.Mem.tail)); done | (repeat (first | exact List.Mem.head _ | apply List.Mem.tail))) (by exact agg30)) (ResOK.tmp rfl) (ResOK.tmp rfl) ⟨(y9x0_1, y9x0_2), y5, 0, rfl, rfl, rfl⟩ (MSub.cons (by first | (with_reducible repeat (first | exact Pick.here _ | apply Pick.there)); done | (repeat (first | exact Pick.here _ | apply Pick.there))) (MSub.nil _))
      · skip
        replace hp := cond_f hc8 hp
        refine W_skip ?_
        refine W_seq ?_
        refine W_region ?_
        refine L_fieldAddr rfl rfl fld30_0 ?_
        refine L_load rfl rfl (RdC.blk (by first | (with_reducible repeat (first | exact List.Mem.head _ | apply List.Mem.tail)); done | (repeat (first | exact List.Mem.head _ | apply List.Mem.tail)))) one3 rfl ?_
        refine L_build (xs := [(0, .tmp 41)]) (cs := [.int .i64 a0_1, (TL.hdr (TL.nil T_Blob 0))]) rfl rfl bld30 rfl ?_
        refine L_alloc rfl zero30 (fun bk9 => ?_)
        refine L_storeW rfl rfl (by first | (with_reducible repeat (first | exact Pick.here _ | apply Pick.there)); done | (repeat (first | exact Pick.here _ | apply Pick.there))) (by exact agg30) (by rfl) (by first | exact allOne rfl | exact fun v hv => GT.one _ v hv | (simp [Value.oneCell', TL.hdr, Value.cells]; done)) ?_
        refine L_nil ?_
        refine W_seq ?_
        refine W_region ?_
        refine L_assign rfl rfl ?_
        refine L_nil ?_
        refine W_seq ?_
        refine W_seq ?_
        refine W_region ?_
        refine L_assign rfl rfl ?_
        refine L_nil ?_
        refine W_block ?_
        refine W_conv (M' := treeH (TL.nil T_Blob 0) :: _) (fun w h => addNilT (τ := T_Blob) 0 h) ?_
        refine W_while (σ := Bool × Int × (TL T_Blob)) GT.dat (fun ((v10_0, v10_1, v10_2) : Bool × Int × (TL T_Blob)) => [(10, .bool v10_0), (11, .int .i64 v10_1)]) (fun ((v10_0, v10_1, v10_2) : Bool × Int × (TL T_Blob)) => [blk bk9 [.int .i64 a0_1, (TL.hdr v10_2)] 30, treeH v10_2]) [(1, _), (2, _), (4, _), (7, _), (9, _)] [blk bk2 _ _, blk bk4 _ _] (false, 0, (TL.nil T_Blob 0)) hp (Sub.cons rfl (Sub.cons rfl (Sub.cons rfl (Sub.cons rfl (Sub.cons rfl (Sub.cons rfl (Sub.cons rfl (Sub.nil _)))))))) (MSub.cons (by first | (with_reducible repeat (first | exact Pick.here _ | apply Pick.there)); done | (repeat (first | exact Pick.here _ | apply Pick.there))) (MSub.cons (by first | (with_reducible repeat (first | exact Pick.here _ | apply Pick.there)); done | (repeat (first | exact Pick.here _ | apply Pick.there))) (MSub.cons (by first | (with_reducible repeat (first | exact Pick.here _ | apply Pick.there)); done | (repeat (first | exact Pick.here _ | apply Pick.there))) (MSub.cons (by first | (with_reducible repeat (first | exact Pick.here _ | apply Pick.there)); done | (repeat (first | exact Pick.here _ | apply Pick.there))) (MSub.nil _))))) ?_
        clear hp
        rintro ⟨v10_0, v10_1, v10_2⟩ x10 hp hx10
        try dsimp only [dat_pair, dat_int, dat_bool, dat_str, dat_ar] at hp
        refine W_weaken (l' := [(1, _), (2, _), (4, _), (7, _), (9, _), (10, _), (11, _)]) (Sub.cons rfl (Sub.cons rfl (Sub.cons rfl (Sub.cons rfl (Sub.cons rfl (Sub.cons rfl (Sub.cons rfl (Sub.nil _)))))))) (M' := [_, _, _, _]) (MSub.cons (by first | (with_reducible repeat (first | exact Pick.here _ | apply Pick.there)); done | (repeat (first | exact Pick.here _ | apply Pick.there))) (MSub.cons (by first | (with_reducible repeat (first | exact Pick.here _ | apply Pick.there)); done | (repeat (first | exact Pick.here _ | apply Pick.there))) (MSub.cons (by first | (with_reducible repeat (first | exact Pick.here _ | apply Pick.there)); done | (repeat (first | exact Pick.here _ | apply Pick.there))) (MSub.cons (by first | (with_reducible repeat (first | exact Pick.here _ | apply Pick.there)); done | (repeat (first | exact Pick.here _ | apply Pick.there))) (MSub.nil _))))) ?_
        refine W_seq ?_
        refine W_seq ?_
        refine W_region ?_
        refine L_move rfl rfl ?_
        refine L_fieldAddr rfl rfl fld30_1 ?_
        refine L_load rfl rfl (RdC.blk (by first | (with_reducible repeat (first | exact List.Mem.head _ | apply List.Mem.tail)); done | (repeat (first | exact List.Mem.head _ | apply List.Mem.tail)))) one28 rfl ?_
        refine L_lenP (X := a0_2) rfl rfl el28 ?_
        refine L_binV rfl rfl rfl bv_lss ?_
        refine L_nil ?_
        refine W_weaken (l' := [(1, _), (2, _), (4, _), (7, _), (9, _), (10, _), (11, _), (47, _)]) (Sub.cons rfl (Sub.cons rfl (Sub.cons rfl (Sub.cons rfl (Sub.cons rfl (Sub.cons rfl (Sub.cons rfl (Sub.cons rfl (Sub.nil _))))))))) (MSub.refl _) ?_
        refine W_cond rfl (fun hc11 => ?_) (fun hc11 => ?_)
        · skip
          replace hp := cond_t hc11 hp
          refine W_skip ?_
          refine W_seq ?_
          refine W_block ?_
          refine W_jn (σ := Bool × (TL T_Blob)) GT.dat (fun ((v12_0, v12_1) : Bool × (TL T_Blob)) => [(10, .bool v12_0)]) (fun ((v12_0, v12_1) : Bool × (TL T_Blob)) => [blk bk9 [.int .i64 a0_1, (TL.hdr v12_1)] 30, treeH v12_1]) [(1, .string a1), (2, .pointer (some ⟨bk2, 0, none⟩)), (4, .pointer (some ⟨bk4, 0, none⟩)), (7, .string y5), (9, .pointer (some ⟨bk9, 0, none⟩)), (11, .int .i64 v10_1)] [blk bk2 [.int .i64 a0_1, (TL.hdr a0_2)] 30, blk bk4 [.int .i64 0, (TL.hdr (TL.nil T_Blob 0))] 30] hp ?_ ?_
          · skip
            clear hp
            intro x12 hp hx12
            refine W_seq ?_
            have ho := hp; clear hp; obtain ⟨u13, hy13, hp⟩ := idx_gb ho; clear ho
            obtain ⟨u13_1, u13_2, u13_3⟩ := u13
            refine W_D0 [61] mix (by kernel_rfl) rfl ?_
            refine D_move GC.none (OpV.t rfl) ?_
            refine D_not GC.none (OpV.t rfl) ?_
            refine D_move GC.none (OpV.t rfl) ?_
            refine D_fieldAddr (GC.some rfl rfl) (OpV.t rfl) fld30_1 ?_
            refine D_load (GC.some rfl rfl) (OpV.s rfl) (fun hg => RdC.blk (by first | (with_reducible repeat (first | exact List.Mem.head _ | apply List.Mem.tail)); done | (repeat (first | exact List.Mem.head _ | apply List.Mem.tail)))) one28 rfl ?_
            refine D_move (GC.some rfl rfl) (OpV.t rfl) ?_
            refine D_idxA (X := a0_2) (GC.some rfl rfl) (OpV.s rfl) (OpV.s rfl) el28 (RdT.old h0.2) (fun hg => hy13 hg.2) ?_
            refine D_fieldAddr (GC.some rfl rfl) (OpV.s rfl) fld89_0 ?_
            refine D_load (GC.some rfl rfl) (OpV.s rfl) (fun hg => RdT.at (RdT.old h0.2) (hy13 hg.2).2) one9 rfl ?_
            refine D_move (GC.some rfl rfl) (OpV.t rfl) ?_
            refine D_bin (GC.some rfl rfl) (OpV.s rfl) (OpV.s rfl) (fun hg => bv_sgeq) ?_
            refine D_and (cy := _) GC.none (OpV.t rfl) (OpV.s rfl) (fun h hb => ⟨h, hb⟩) ?_
            refine DV_nil ?_
            refine Give_is rfl rfl ?_
            refine Give_drop rfl ?_
            refine Give_drop rfl ?_
            refine Give_drop rfl ?_
            refine Give_drop rfl ?_
            refine Give_drop rfl ?_
            refine Give_drop rfl ?_
            refine Give_drop rfl ?_
            refine Give_drop rfl ?_
            refine Give_drop rfl ?_
            refine Give_drop rfl ?_
            refine Give_drop rfl ?_
            refine Give_nil ?_
            refine W_weaken (l' := [(1, _), (2, _), (4, _), (7, _), (9, _), (10, _), (11, _), (61, _)]) (Sub.cons rfl (Sub.cons rfl (Sub.cons rfl (Sub.cons rfl (Sub.cons rfl (Sub.cons rfl (Sub.cons rfl (Sub.cons rfl (Sub.nil _))))))))) (MSub.refl _) ?_
            refine W_cond rfl (fun hc14 => ?_) (fun hc14 => ?_)
            · skip
              replace hp := cond_t hc14 hp
              refine W_seq ?_
              refine W_region ?_
              refine L_fieldAddr rfl rfl fld30_1 ?_
              refine L_load rfl rfl (RdC.blk (by first | (with_reducible repeat (first | exact List.Mem.head _ | apply List.Mem.tail)); done | (repeat (first | exact List.Mem.head _ | apply List.Mem.tail)))) one28 rfl ?_
              refine L_move rfl rfl ?_
              refine L_move rfl rfl ?_
              refine L_build (xs := [(0, .tmp 64), (1, .tmp 65)]) (cs := [.string y5, .string a1, .bool false]) rfl rfl bld89 rfl ?_
              refine L_buildSlice1 rfl rfl el28 rfl (by decide) (by decide) rfl (fun bb67 => ?_)
              have ho := hp; clear hp; obtain ⟨y16, hy16, hp⟩ := bind_any ho; clear ho
              refine L_app1F (X := v10_2) ((y5, a1, false) : T_Blob) rfl rfl rfl el28 rfl rfl (by first | (with_reducible repeat (first | exact Pick.here _ | apply Pick.there)); done | (repeat (first | exact Pick.here _ | apply Pick.there))) (by first | (with_reducible repeat (first | exact List.Mem.head _ | apply List.Mem.tail)); done | (repeat (first | exact List.Mem.head _ | apply List.Mem.tail)))  hy16 (by decide) (fun X15 hdX15 => ?_)
              subst hdX15
              refine L_fieldAddr rfl rfl fld30_1 ?_
              refine L_store rfl rfl (by first | (with_reducible repeat (first | exact Pick.here _ | apply Pick.there)); done | (repeat (first | exact Pick.here _ | apply Pick.there))) one28 rfl rfl ?_
              refine L_nil ?_
              refine W_region ?_
              refine L_assign rfl rfl ?_
              refine L_nil ?_
              exact ⟨(true, X15), (Sub.cons rfl (Sub.cons rfl (Sub.cons rfl (Sub.cons rfl (Sub.cons rfl (Sub.cons rfl (Sub.cons rfl (Sub.nil _)))))))), (Arr.sub (MSub.cons (by first | (with_reducible repeat (first | exact Pick.here _ | apply Pick.there)); done | (repeat (first | exact Pick.here _ | apply Pick.there))) (MSub.cons (by first | (with_reducible repeat (first | exact Pick.here _ | apply Pick.there)); done | (repeat (first | exact Pick.here _ | apply Pick.there))) (MSub.cons (by first | (with_reducible repeat (first | exact Pick.here _ | apply Pick.there)); done | (repeat (first | exact Pick.here _ | apply Pick.there))) (MSub.cons (by first | (with_reducible repeat (first | exact Pick.here _ | apply Pick.there)); done | (repeat (first | exact Pick.here _ | apply Pick.there))) (MSub.nil _)))))), some_eq hp⟩
            · skip
              replace hp := cond_f hc14 hp
              refine W_skip ?_
              exact ⟨(v10_0, v10_2), (Sub.cons rfl (Sub.cons rfl (Sub.cons rfl (Sub.cons rfl (Sub.cons rfl (Sub.cons rfl (Sub.cons rfl (Sub.nil _)))))))), (Arr.sub (MSub.cons (by first | (with_reducible repeat (first | exact Pick.here _ | apply Pick.there)); done | (repeat (first | exact Pick.here _ | apply Pick.there))) (MSub.cons (by first | (with_reducible repeat (first | exact Pick.here _ | apply Pick.there)); done | (repeat (first | exact Pick.here _ | apply Pick.there))) (MSub.cons (by first | (with_reducible repeat (first | exact Pick.here _ | apply Pick.there)); done | (repeat (first | exact Pick.here _ | apply Pick.there))) (MSub.cons (by first | (with_reducible repeat (first | exact Pick.here _ | apply Pick.there)); done | (repeat (first | exact Pick.here _ | apply Pick.there))) (MSub.nil _)))))), some_eq hp⟩
          · skip
            clear hp
            rintro ⟨v12_0, v12_1⟩ hp
            try dsimp only [dat_pair, dat_int, dat_bool, dat_str, dat_ar] at hp
            refine W_weaken (l' := [(1, _), (2, _), (4, _), (7, _), (9, _), (10, _), (11, _)]) (Sub.cons rfl (Sub.cons rfl (Sub.cons rfl (Sub.cons rfl (Sub.cons rfl (Sub.cons rfl (Sub.cons rfl (Sub.nil _)))))))) (M' := [_, _, _, _]) (MSub.cons (by first | (with_reducible repeat (first | exact Pick.here _ | apply Pick.there)); done | (repeat (first | exact Pick.here _ | apply Pick.there))) (MSub.cons (by first | (with_reducible repeat (first | exact Pick.here _ | apply Pick.there)); done | (repeat (first | exact Pick.here _ | apply Pick.there))) (MSub.cons (by first | (with_reducible repeat (first | exact Pick.here _ | apply Pick.there)); done | (repeat (first | exact Pick.here _ | apply Pick.there))) (MSub.cons (by first | (with_reducible repeat (first | exact Pick.here _ | apply Pick.there)); done | (repeat (first | exact Pick.here _ | apply Pick.there))) (MSub.nil _))))) ?_
            refine W_seq ?_
            refine W_region ?_
            refine L_fieldAddr rfl rfl fld30_1 ?_
            refine L_load rfl rfl (RdC.blk (by first | (with_reducible repeat (first | exact List.Mem.head _ | apply List.Mem.tail)); done | (repeat (first | exact List.Mem.head _ | apply List.Mem.tail)))) one28 rfl ?_
            refine L_move rfl rfl ?_
            have ho := hp; clear hp; obtain ⟨u17, hy17, hp⟩ := idx_bind ho; clear ho
            obtain ⟨u17_1, u17_2, u17_3⟩ := u17
            refine L_idxA (X := a0_2) rfl rfl rfl el28 (RdT.old h0.2) hy17 ?_
            refine L_fieldAddr rfl rfl fld89_0 ?_
            refine L_load rfl rfl (RdT.at (RdT.old h0.2) (hy17).2) one9 rfl ?_
            refine L_move rfl rfl ?_
            refine L_binV rfl rfl rfl bv_sneq ?_
            refine L_nil ?_
            refine W_weaken (l' := [(1, _), (2, _), (4, _), (7, _), (9, _), (10, _), (11, _), (77, _)]) (Sub.cons rfl (Sub.cons rfl (Sub.cons rfl (Sub.cons rfl (Sub.cons rfl (Sub.cons rfl (Sub.cons rfl (Sub.cons rfl (Sub.nil _))))))))) (MSub.refl _) ?_
            refine W_cond rfl (fun hc18 => ?_) (fun hc18 => ?_)
            · skip
              replace hp := cond_t hc18 hp
              have ho := hp; clear hp; obtain ⟨u19, hy19, hp⟩ := idx_bind ho; clear ho
              obtain rfl : (u17_1, u17_2, u17_3) = u19 := Option.some.inj (hy17.2.symm.trans hy19.2)
              refine W_DS (pre := [_, _, _, _, _, _, _, _]) (suf := [_, _, _]) [79, 85] [] _ (perm_nil_left _) mix (by kernel_rfl) (by kernel_rfl) rfl ?_
              refine D_fieldAddr GC.none (OpV.t rfl) fld30_1 ?_
              refine D_load GC.none (OpV.t rfl) (fun hg => RdC.blk (by first | (with_reducible repeat (first | exact List.Mem.head _ | apply List.Mem.tail)); done | (repeat (first | exact List.Mem.head _ | apply List.Mem.tail)))) one28 rfl ?_
              refine D_fieldAddr GC.none (OpV.t rfl) fld30_1 ?_
              refine D_load GC.none (OpV.t rfl) (fun hg => RdC.blk (by first | (with_reducible repeat (first | exact List.Mem.head _ | apply List.Mem.tail)); done | (repeat (first | exact List.Mem.head _ | apply List.Mem.tail)))) one28 rfl ?_
              refine D_move GC.none (OpV.t rfl) ?_
              refine D_idxA (X := a0_2) GC.none (OpV.t rfl) (OpV.t rfl) el28 (RdT.old h0.2) (fun _ => hy17) ?_
              refine D_loadW GC.none (OpV.t rfl) (fun hg => RdT.at (RdT.old h0.2) (hy17).2) (by exact agg89) ?_
              refine D_bs1 (OpV.t rfl) el28 rfl (by decide) (by decide) rfl ?_
              refine DV_nil ?_
              refine Give_R rfl rfl ?_
              rintro vr85 Mr85 ⟨bb85, hvr85, rfl⟩
              subst hvr85
              simp only [List.cons_append, List.nil_append]
              refine Give_drop rfl ?_
              refine Give_drop rfl ?_
              refine Give_drop rfl ?_
              refine Give_drop rfl ?_
              refine Give_drop rfl ?_
              refine Give_is rfl rfl ?_
              refine Give_drop rfl ?_
              refine Give_nil ?_
              have ho := hp; clear hp; obtain ⟨y21, hy21, hp⟩ := bind_any ho; clear ho
              refine L_app1F (X := v12_1) ((u17_1, u17_2, u17_3) : T_Blob) rfl rfl rfl el28 rfl rfl (by first | (with_reducible repeat (first | exact Pick.here _ | apply Pick.there)); done | (repeat (first | exact Pick.here _ | apply Pick.there))) (by first | (with_reducible repeat (first | exact List.Mem.head _ | apply List.Mem.tail)); done | (repeat (first | exact List.Mem.head _ | apply List.Mem.tail)))  hy21 (by decide) (fun X20 hdX20 => ?_)
              subst hdX20
              refine L_fieldAddr rfl rfl fld30_1 ?_
              refine L_store rfl rfl (by first | (with_reducible repeat (first | exact Pick.here _ | apply Pick.there)); done | (repeat (first | exact Pick.here _ | apply Pick.there))) one28 rfl rfl ?_
              refine L_nil ?_
              refine W_region ?_
              refine L_move rfl rfl ?_
              refine L_binV rfl rfl rfl bv_add ?_
              refine L_assign rfl rfl ?_
              refine L_nil ?_
              exact ⟨(v12_0, IntKind.wrap .i64 (v10_1 + 1), X20), (Sub.cons rfl (Sub.cons rfl (Sub.cons rfl (Sub.cons rfl (Sub.cons rfl (Sub.cons rfl (Sub.cons rfl (Sub.nil _)))))))), (Arr.sub (MSub.cons (by first | (with_reducible repeat (first | exact Pick.here _ | apply Pick.there)); done | (repeat (first | exact Pick.here _ | apply Pick.there))) (MSub.cons (by first | (with_reducible repeat (first | exact Pick.here _ | apply Pick.there)); done | (repeat (first | exact Pick.here _ | apply Pick.there))) (MSub.cons (by first | (with_reducible repeat (first | exact Pick.here _ | apply Pick.there)); done | (repeat (first | exact Pick.here _ | apply Pick.there))) (MSub.cons (by first | (with_reducible repeat (first | exact Pick.here _ | apply Pick.there)); done | (repeat (first | exact Pick.here _ | apply Pick.there))) (MSub.nil _)))))), some_eq hp⟩
            · skip
              replace hp := cond_f hc18 hp
              refine W_skip ?_
              refine W_region ?_
              refine L_move rfl rfl ?_
              refine L_binV rfl rfl rfl bv_add ?_
              refine L_assign rfl rfl ?_
              refine L_nil ?_
              exact ⟨(v12_0, IntKind.wrap .i64 (v10_1 + 1), v12_1), (Sub.cons rfl (Sub.cons rfl (Sub.cons rfl (Sub.cons rfl (Sub.cons rfl (Sub.cons rfl (Sub.cons rfl (Sub.nil _)))))))), (Arr.sub (MSub.cons (by first | (with_reducible repeat (first | exact Pick.here _ | apply Pick.there)); done | (repeat (first | exact Pick.here _ | apply Pick.there))) (MSub.cons (by first | (with_reducible repeat (first | exact Pick.here _ | apply Pick.there)); done | (repeat (first | exact Pick.here _ | apply Pick.there))) (MSub.cons (by first | (with_reducible repeat (first | exact Pick.here _ | apply Pick.there)); done | (repeat (first | exact Pick.here _ | apply Pick.there))) (MSub.cons (by first | (with_reducible repeat (first | exact Pick.here _ | apply Pick.there)); done | (repeat (first | exact Pick.here _ | apply Pick.there))) (MSub.nil _)))))), some_eq hp⟩
        · skip
          replace hp := cond_f hc11 hp
          refine W_exit ?_
          have ho := hp; clear hp; obtain ⟨a22, hp, hx_a22⟩ := map_any ho; clear ho
          obtain rfl := hx10 _ hx_a22
          refine W_seq ?_
          refine W_seq ?_
          refine W_region ?_
          refine L_move rfl rfl ?_
          refine L_not rfl rfl ?_
          refine L_nil ?_
          refine W_weaken (l' := [(1, _), (2, _), (4, _), (7, _), (9, _), (89, _)]) (Sub.cons rfl (Sub.cons rfl (Sub.cons rfl (Sub.cons rfl (Sub.cons rfl (Sub.cons rfl (Sub.nil _))))))) (MSub.refl _) ?_
          refine W_cond rfl (fun hc23 => ?_) (fun hc23 => ?_)
          · skip
            replace hp := cond_t hc23 hp
            refine W_region ?_
            refine L_fieldAddr rfl rfl fld30_1 ?_
            refine L_load rfl rfl (RdC.blk (by first | (with_reducible repeat (first | exact List.Mem.head _ | apply List.Mem.tail)); done | (repeat (first | exact List.Mem.head _ | apply List.Mem.tail)))) one28 rfl ?_
            refine L_move rfl rfl ?_
            refine L_move rfl rfl ?_
            refine L_build (xs := [(0, .tmp 92), (1, .tmp 93)]) (cs := [.string y5, .string a1, .bool false]) rfl rfl bld89 rfl ?_
            refine L_buildSlice1 rfl rfl el28 rfl (by decide) (by decide) rfl (fun bb95 => ?_)
            have ho := hp; clear hp; obtain ⟨y25, hy25, hp⟩ := bind_any ho; clear ho
            refine L_app1F (X := v10_2) ((y5, a1, false) : T_Blob) rfl rfl rfl el28 rfl rfl (by first | (with_reducible repeat (first | exact Pick.here _ | apply Pick.there)); done | (repeat (first | exact Pick.here _ | apply Pick.there))) (by first | (with_reducible repeat (first | exact List.Mem.head _ | apply List.Mem.tail)); done | (repeat (first | exact List.Mem.head _ | apply List.Mem.tail)))  hy25 (by decide) (fun X24 hdX24 => ?_)
            subst hdX24
            refine L_fieldAddr rfl rfl fld30_1 ?_
            refine L_store rfl rfl (by first | (with_reducible repeat (first | exact Pick.here _ | apply Pick.there)); done | (repeat (first | exact Pick.here _ | apply Pick.there))) one28 rfl rfl ?_
            refine L_nil ?_
            refine W_seq ?_
            refine W_seq ?_
            refine W_region ?_
            refine L_loadW rfl rfl (RdC.blk (by first | (with_reducible repeat (first | exact List.Mem.head _ | apply List.Mem.tail)); done | (repeat (first | exact List.Mem.head _ | apply List.Mem.tail)))) (by exact agg30) ?_
            have ho := hp; clear hp; obtain ⟨y26, hy26, hp⟩ := bind_any ho; clear ho
            refine L_callX rfl fn40 rfl (by exact fun w hw => s_BlobsOk_walk w (a0_1, X24) (RdT.now (RdT.pair RdT.int (RdT.tree (by first | (with_reducible repeat (first | exact List.Mem.head _ | apply List.Mem.tail)); done | (repeat (first | exact List.Mem.head _ | apply List.Mem.tail))))) hw) _ hy26) ?_
            refine L_not rfl rfl ?_
            refine L_nil ?_
            refine W_weaken (l' := [(2, _), (4, _), (7, _), (9, _), (100, _)]) (Sub.cons rfl (Sub.cons rfl (Sub.cons rfl (Sub.cons rfl (Sub.cons rfl (Sub.nil _)))))) (MSub.refl _) ?_
            refine W_cond rfl (fun hc27 => ?_) (fun hc27 => ?_)
            · skip
              replace hp := cond_t hc27 hp
              refine W_seq ?_
              refine W_region ?_
              refine L_loadW rfl rfl (RdC.blk (by first | (with_reducible repeat (first | exact List.Mem.head _ | apply List.Mem.tail)); done | (repeat (first | exact List.Mem.head _ | apply List.Mem.tail)))) (by exact agg30) ?_
              have ho := hp; clear hp; obtain ⟨y28, hy28, hp⟩ := bind_any ho; clear ho
              refine L_callR rfl fn67 rfl (by exact fun w hw => s_l7Copy_walk w (a0_1, a0_2) (RdT.now (RdT.pair RdT.int (RdT.old h0.2)) hw) _ hy28) ?_
              rintro vy28 My28 ⟨y28x0, hvy28, hdy28, rfl⟩
              subst hvy28
              subst hdy28
              obtain ⟨y28x0_1, y28x0_2⟩ := y28x0
              simp only [cells_pair, cells_int, cells_bool, cells_str, cells_TL, List.cons_append, List.nil_append]
              try dsimp only [dat_pair, dat_int, dat_bool, dat_str, dat_ar] at hp
              refine L_conv (M' := treeH y28x0_2 :: _) (fun w h => exR (a := y28x0_1) (by first | (with_reducible repeat (first | exact Pick.here _ | apply Pick.there)); done | (repeat (first | exact Pick.here _ | apply Pick.there))) h) ?_
              refine L_storeW rfl rfl (by first | (with_reducible repeat (first | exact Pick.here _ | apply Pick.there)); done | (repeat (first | exact Pick.here _ | apply Pick.there))) (by exact agg30) (by rfl) (by first | exact allOne rfl | exact fun v hv => GT.one _ v hv | (simp [Value.oneCell', TL.hdr, Value.cells]; done)) ?_
              refine L_assign rfl rfl ?_
              refine L_assign rfl rfl ?_
              refine L_nil ?_
              obtain rfl := Option.some.inj hp
              refine W_conv (M' := treeH ((y28x0_1, y28x0_2) : Int × TL T_Blob) :: _) (fun w h => jnR (a := y28x0_1) (b := y28x0_2) (by first | (with_reducible repeat (first | exact Pick.here _ | apply Pick.there)); done | (repeat (first | exact Pick.here _ | apply Pick.there))) h) ?_
              refine W_ret ?_
              refine res3 rfl (ResOK.cell rfl (by first | (with_reducible repeat (first | exact List.Mem.head _ | apply List.Mem.tail)); done | (repeat (first | exact List.Mem.head _ | apply List.Mem.tail))) (by exact agg30)) (ResOK.tmp rfl) (ResOK.tmp rfl) ⟨(y28x0_1, y28x0_2), ByteArray.empty, 2, rfl, rfl, rfl⟩ (MSub.cons (by first | (with_reducible repeat (first | exact Pick.here _ | apply Pick.there)); done | (repeat (first | exact Pick.here _ | apply Pick.there))) (MSub.nil _))
            · skip
              replace hp := cond_f hc27 hp
              refine W_skip ?_
              refine W_seq ?_
              refine W_region ?_
              refine L_loadW rfl rfl (RdC.blk (by first | (with_reducible repeat (first | exact List.Mem.head _ | apply List.Mem.tail)); done | (repeat (first | exact List.Mem.head _ | apply List.Mem.tail)))) (by exact agg30) ?_
              refine L_move rfl rfl ?_
              refine L_storeW rfl rfl (by first | (with_reducible repeat (first | exact Pick.here _ | apply Pick.there)); done | (repeat (first | exact Pick.here _ | apply Pick.there))) (by exact agg30) (by rfl) (by first | exact allOne rfl | exact fun v hv => GT.one _ v hv | (simp [Value.oneCell', TL.hdr, Value.cells]; done)) ?_
              refine L_assign rfl rfl ?_
              refine L_assign rfl rfl ?_
              refine L_nil ?_
              obtain rfl := Option.some.inj hp
              refine W_conv (M' := treeH ((a0_1, X24) : Int × TL T_Blob) :: _) (fun w h => jnR (a := a0_1) (b := X24) (by first | (with_reducible repeat (first | exact Pick.here _ | apply Pick.there)); done | (repeat (first | exact Pick.here _ | apply Pick.there))) h) ?_
              refine W_ret ?_
              refine res3 rfl (ResOK.cell rfl (by first | (with_reducible repeat (first | exact List.Mem.head _ | apply List.Mem.tail)); done | (repeat (first | exact List.Mem.head _ | apply List.Mem.tail))) (by exact agg30)) (ResOK.tmp rfl) (ResOK.tmp rfl) ⟨(a0_1, X24), y5, 0, rfl, rfl, rfl⟩ (MSub.cons (by first | (with_reducible repeat (first | exact Pick.here _ | apply Pick.there)); done | (repeat (first | exact Pick.here _ | apply Pick.there))) (MSub.nil _))
          · skip
            replace hp := cond_f hc23 hp
            refine W_skip ?_
            refine W_seq ?_
            refine W_seq ?_
            refine W_region ?_
            refine L_loadW rfl rfl (RdC.blk (by first | (with_reducible repeat (first | exact List.Mem.head _ | apply List.Mem.tail)); done | (repeat (first | exact List.Mem.head _ | apply List.Mem.tail)))) (by exact agg30) ?_
            have ho := hp; clear hp; obtain ⟨y29, hy29, hp⟩ := bind_any ho; clear ho
            refine L_callX rfl fn40 rfl (by exact fun w hw => s_BlobsOk_walk w (a0_1, v10_2) (RdT.now (RdT.pair RdT.int (RdT.tree (by first | (with_reducible repeat (first | exact List.Mem.head _ | apply List.Mem.tail)); done | (repeat (first | exact List.Mem.head _ | apply List.Mem.tail))))) hw) _ hy29) ?_
            refine L_not rfl rfl ?_
            refine L_nil ?_
            refine W_weaken (l' := [(2, _), (4, _), (7, _), (9, _), (100, _)]) (Sub.cons rfl (Sub.cons rfl (Sub.cons rfl (Sub.cons rfl (Sub.cons rfl (Sub.nil _)))))) (MSub.refl _) ?_
            refine W_cond rfl (fun hc30 => ?_) (fun hc30 => ?_)
            · skip
              replace hp := cond_t hc30 hp
              refine W_seq ?_
              refine W_region ?_
              refine L_loadW rfl rfl (RdC.blk (by first | (with_reducible repeat (first | exact List.Mem.head _ | apply List.Mem.tail)); done | (repeat (first | exact List.Mem.head _ | apply List.Mem.tail)))) (by exact agg30) ?_
              have ho := hp; clear hp; obtain ⟨y31, hy31, hp⟩ := bind_any ho; clear ho
              refine L_callR rfl fn67 rfl (by exact fun w hw => s_l7Copy_walk w (a0_1, a0_2) (RdT.now (RdT.pair RdT.int (RdT.old h0.2)) hw) _ hy31) ?_
              rintro vy31 My31 ⟨y31x0, hvy31, hdy31, rfl⟩
              subst hvy31
              subst hdy31
              obtain ⟨y31x0_1, y31x0_2⟩ := y31x0
              simp only [cells_pair, cells_int, cells_bool, cells_str, cells_TL, List.cons_append, List.nil_append]
              try dsimp only [dat_pair, dat_int, dat_bool, dat_str, dat_ar] at hp
              refine L_conv (M' := treeH y31x0_2 :: _) (fun w h => exR (a := y31x0_1) (by first | (with_reducible repeat (first | exact Pick.here _ | apply Pick.there)); done | (repeat (first | exact Pick.here _ | apply Pick.there))) h) ?_
              refine L_storeW rfl rfl (by first | (with_reducible repeat (first | exact Pick.here _ | apply Pick.there)); done | (repeat (first | exact Pick.here _ | apply Pick.there))) (by exact agg30) (by rfl) (by first | exact allOne rfl | exact fun v hv => GT.one _ v hv | (simp [Value.oneCell', TL.hdr, Value.cells]; done)) ?_
              refine L_assign rfl rfl ?_
              refine L_assign rfl rfl ?_
              refine L_nil ?_
              obtain rfl := Option.some.inj hp
              refine W_conv (M' := treeH ((y31x0_1, y31x0_2) : Int × TL T_Blob) :: _) (fun w h => jnR (a := y31x0_1) (b := y31x0_2) (by first | (with_reducible repeat (first | exact Pick.here _ | apply Pick.there)); done | (repeat (first | exact Pick.here _ | apply Pick.there))) h) ?_
              refine W_ret ?_
              refine res3 rfl (ResOK.cell rfl (by first | (with_reducible repeat (first | exact List.Mem.head _ | apply List.Mem.tail)); done | (repeat (first | exact List.Mem.head _ | apply List.Mem.tail))) (by exact agg30)) (ResOK.tmp rfl) (ResOK.tmp rfl) ⟨(y31x0_1, y31x0_2), ByteArray.empty, 2, rfl, rfl, rfl⟩ (MSub.cons (by first | (with_reducible repeat (first | exact Pick.here _ | apply Pick.there)); done | (repeat (first | exact Pick.here _ | apply Pick.there))) (MSub.nil _))
            · skip
              replace hp := cond_f hc30 hp
              refine W_skip ?_
              refine W_seq ?_
              refine W_region ?_
              refine L_loadW rfl rfl (RdC.blk (by first | (with_reducible repeat (first | exact List.Mem.head _ | apply List.Mem.tail)); done | (repeat (first | exact List.Mem.head _ | apply List.Mem.tail)))) (by exact agg30) ?_
              refine L_move rfl rfl ?_
              refine L_storeW rfl rfl (by first | (with_reducible repeat (first | exact Pick.here _ | apply Pick.there)); done | (repeat (first | exact Pick.here _ | apply Pick.there))) (by exact agg30) (by rfl) (by first | exact allOne rfl | exact fun v hv => GT.one _ v hv | (simp [Value.oneCell', TL.hdr, Value.cells]; done)) ?_
              refine L_assign rfl rfl ?_
              refine L_assign rfl rfl ?_
              refine L_nil ?_
              obtain rfl := Option.some.inj hp
              refine W_conv (M' := treeH ((a0_1, v10_2) : Int × TL T_Blob) :: _) (fun w h => jnR (a := a0_1) (b := v10_2) (by first | (with_reducible repeat (first | exact Pick.here _ | apply Pick.there)); done | (repeat (first | exact Pick.here _ | apply Pick.there))) h) ?_
              refine W_ret ?_
              refine res3 rfl (ResOK.cell rfl (by first | (with_reducible repeat (first | exact List.Mem.head _ | apply List.Mem.tail)); done | (repeat (first | exact List.Mem.head _ | apply List.Mem.tail))) (by exact agg30)) (ResOK.tmp rfl) (ResOK.tmp rfl) ⟨(a0_1, v10_2), y5, 0, rfl, rfl, rfl⟩ (MSub.cons (by first | (with_reducible repeat (first | exact Pick.here _ | apply Pick.there)); done | (repeat (first | exact Pick.here _ | apply Pick.there))) (MSub.nil _))

end Go.Proofs.SL
