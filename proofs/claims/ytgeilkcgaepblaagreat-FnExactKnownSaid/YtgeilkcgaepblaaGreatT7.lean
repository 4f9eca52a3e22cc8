/- The texts of the proof, part 7: the base, walks of functions, plain Lean. -/
import Derived.Test.YtgeilkcgaepblaaGreatT6
import Derived.Test.YtgeilkcgaepblaaGreatT5
import Derived.Test.YtgeilkcgaepblaaGreatT4
namespace Go.Proofs.SL
open Go
instance : Inhabited T_EMsg := ⟨(0, 0, 0, (0, 0), 0, (0, 0, 0, ByteArray.empty, ByteArray.empty, ByteArray.empty, 0, TL.nil ByteArray 0), 0, TL.nil T_Id 0, 0, 0, false)⟩
set_option maxHeartbeats 2000000
abbrev D_EMsg := Int × Int × Int × D_Id × Int × D_Cmd × Int × (List D_Id) × Int × Int × Bool
abbrev D_ENet := (List D_ENode) × (List D_EMsg)
instance fld74_0 : FldF Tryz.prog 74 0 0 := ⟨by kernel_rfl⟩
instance fld74_1 : FldF Tryz.prog 74 1 1 := ⟨by kernel_rfl⟩
instance fld74_2 : FldF Tryz.prog 74 2 2 := ⟨by kernel_rfl⟩
instance fld74_3 : FldF Tryz.prog 74 3 3 := ⟨by kernel_rfl⟩
instance fld74_4 : FldF Tryz.prog 74 4 5 := ⟨by kernel_rfl⟩
instance fld74_5 : FldF Tryz.prog 74 5 6 := ⟨by kernel_rfl⟩
instance fld74_6 : FldF Tryz.prog 74 6 14 := ⟨by kernel_rfl⟩
instance fld74_7 : FldF Tryz.prog 74 7 15 := ⟨by kernel_rfl⟩
instance fld74_8 : FldF Tryz.prog 74 8 16 := ⟨by kernel_rfl⟩
instance fld74_9 : FldF Tryz.prog 74 9 17 := ⟨by kernel_rfl⟩
instance fn113 : FnF Tryz.prog 113 := ⟨⟨_, Tryz.func113, by kernel_rfl, rfl⟩⟩
instance fld74_10 : FldF Tryz.prog 74 10 18 := ⟨by kernel_rfl⟩
instance und4 : UndF Tryz.prog 4 (.bool) := ⟨by kernel_rfl⟩
instance el29 : ElF Tryz.prog 29 74 19 208 [.int .i64 0, .int .i64 0, .int .i64 0, .int .i64 0, .int .i64 0, .int .i64 0, .int .i64 0, .int .i64 0, .int .i64 0, .string ByteArray.empty, .string ByteArray.empty, .string ByteArray.empty, .int .i64 0, .slice none 0 0, .int .i64 0, .slice none 0 0, .int .i64 0, .int .i64 0, .bool false] := ⟨by kernel_rfl⟩
instance agg74 : AggF Tryz.prog 74 19 := ⟨by kernel_rfl⟩
instance fn68 : FnF Tryz.prog 68 := ⟨⟨_, Tryz.func68, by kernel_rfl, rfl⟩⟩
instance fld31_0 : FldF Tryz.prog 31 0 0 := ⟨by kernel_rfl⟩
instance one28 : OneF Tryz.prog 28 := ⟨by kernel_rfl⟩
instance el28 : ElF Tryz.prog 28 46 4 64 [.int .i64 0, .int .i64 0, .slice none 0 0, .slice none 0 0] := ⟨by kernel_rfl⟩
instance fld31_1 : FldF Tryz.prog 31 1 1 := ⟨by kernel_rfl⟩
instance one29 : OneF Tryz.prog 29 := ⟨by kernel_rfl⟩
instance fn32 : FnF Tryz.prog 32 := ⟨⟨_, Tryz.func32, by kernel_rfl, rfl⟩⟩
instance fn33 : FnF Tryz.prog 33 := ⟨⟨_, Tryz.func33, by kernel_rfl, rfl⟩⟩
instance fn34 : FnF Tryz.prog 34 := ⟨⟨_, Tryz.func34, by kernel_rfl, rfl⟩⟩
instance fn127 : FnF Tryz.prog 127 := ⟨⟨_, Tryz.func127, by kernel_rfl, rfl⟩⟩
instance fn86 : FnF Tryz.prog 86 := ⟨⟨_, Tryz.func86, by kernel_rfl, rfl⟩⟩
instance fn126 : FnF Tryz.prog 126 := ⟨⟨_, Tryz.func126, by kernel_rfl, rfl⟩⟩
instance fn85 : FnF Tryz.prog 85 := ⟨⟨_, Tryz.func85, by kernel_rfl, rfl⟩⟩
instance fn84 : FnF Tryz.prog 84 := ⟨⟨_, Tryz.func84, by kernel_rfl, rfl⟩⟩
instance zero46 : ZerF Tryz.prog 46 [.int .i64 0, .int .i64 0, .slice none 0 0, .slice none 0 0] := ⟨by kernel_rfl⟩
instance fn40 : FnF Tryz.prog 40 := ⟨⟨_, Tryz.func40, by kernel_rfl, rfl⟩⟩
instance zero74 : ZerF Tryz.prog 74 [.int .i64 0, .int .i64 0, .int .i64 0, .int .i64 0, .int .i64 0, .int .i64 0, .int .i64 0, .int .i64 0, .int .i64 0, .string ByteArray.empty, .string ByteArray.empty, .string ByteArray.empty, .int .i64 0, .slice none 0 0, .int .i64 0, .slice none 0 0, .int .i64 0, .int .i64 0, .bool false] := ⟨by kernel_rfl⟩
instance fn41 : FnF Tryz.prog 41 := ⟨⟨_, Tryz.func41, by kernel_rfl, rfl⟩⟩
instance fn42 : FnF Tryz.prog 42 := ⟨⟨_, Tryz.func42, by kernel_rfl, rfl⟩⟩
noncomputable def s_EMsgOk (a0 : D_EMsg) : Option Bool :=
  Option.bind (s_l1In a0.1 1 7) (fun y1 => gb y1 (s_l9Node a0.2.1) (fun y2 => gb (y1 && y2) (s_l9Node a0.2.2.1) (fun y3 => gb (((y1 && y2) && y3) && (!decide (a0.2.1 = a0.2.2.1))) (s_l8Id (a0.2.2.2.1.1, a0.2.2.2.1.2)) (fun y4 => gb ((((y1 && y2) && y3) && (!decide (a0.2.1 = a0.2.2.1))) && y4) (s_l1In a0.2.2.2.2.1 0 600) (fun y5 => gb (((((y1 && y2) && y3) && (!decide (a0.2.1 = a0.2.2.1))) && y4) && y5) (s_CmdOk (a0.2.2.2.2.2.1.1, a0.2.2.2.2.2.1.2.1, a0.2.2.2.2.2.1.2.2.1, a0.2.2.2.2.2.1.2.2.2.1, a0.2.2.2.2.2.1.2.2.2.2.1, a0.2.2.2.2.2.1.2.2.2.2.2.1, a0.2.2.2.2.2.1.2.2.2.2.2.2.1, a0.2.2.2.2.2.1.2.2.2.2.2.2.2)) (fun y6 => gb ((((((y1 && y2) && y3) && (!decide (a0.2.1 = a0.2.2.1))) && y4) && y5) && y6) (s_l1In a0.2.2.2.2.2.2.1 0 60) (fun y7 => gb (((((((y1 && y2) && y3) && (!decide (a0.2.1 = a0.2.2.1))) && y4) && y5) && y6) && y7) (s_IdsOk a0.2.2.2.2.2.2.2.1) (fun y8 => gb ((((((((y1 && y2) && y3) && (!decide (a0.2.1 = a0.2.2.1))) && y4) && y5) && y6) && y7) && y8) (s_l8Has a0.2.2.2.2.2.2.2.1 (a0.2.2.2.1.1, a0.2.2.2.1.2)) (fun y9 => gb (((((((((y1 && y2) && y3) && (!decide (a0.2.1 = a0.2.2.1))) && y4) && y5) && y6) && y7) && y8) && (!y9)) (s_l1In a0.2.2.2.2.2.2.2.2.1 0 3) (fun y10 => gb ((((((((((y1 && y2) && y3) && (!decide (a0.2.1 = a0.2.2.1))) && y4) && y5) && y6) && y7) && y8) && (!y9)) && y10) (s_l1In a0.2.2.2.2.2.2.2.2.2.1 (-1) 600) (fun y11 => some (((((((((((y1 && y2) && y3) && (!decide (a0.2.1 = a0.2.2.1))) && y4) && y5) && y6) && y7) && y8) && (!y9)) && y10) && y11))))))))))))
theorem s_EMsgOk_walk (w : World) (a0 : T_EMsg) (h0 : GT.rd w [] a0) (r : Bool) (hp : s_EMsgOk (GT.dat a0) = some r) : Spec Tryz.prog 33 [.agg (GT.cells a0).toArray].toArray w [] (IsV (.bool r)) := by
  obtain ⟨a0_1, a0_2, a0_3, ⟨a0_4, a0_5⟩, a0_6, ⟨a0_7, a0_8, a0_9, a0_10, a0_11, a0_12, a0_13, a0_14⟩, a0_15, a0_16, a0_17, a0_18, a0_19⟩ := a0
  change Spec _ _ ([Value.agg #[.int .i64 a0_1, .int .i64 a0_2, .int .i64 a0_3, .int .i64 a0_4, .int .i64 a0_5, .int .i64 a0_6, .int .i64 a0_7, .int .i64 a0_8, .int .i64 a0_9, .string a0_10, .string a0_11, .string a0_12, .int .i64 a0_13, (TL.hdr a0_14), .int .i64 a0_15, (TL.hdr a0_16), .int .i64 a0_17, .int .i64 a0_18, .bool a0_19]] : List Value).toArray w [] _
  refine Spec.intro Tryz.func33 rfl Tryz.ntmps33 rfl ?_
  unfold s_EMsgOk at hp
  try dsimp only [dat_pair, dat_int, dat_bool, dat_str, dat_ar] at hp
  refine W_seq ?_
  refine W_region ?_
  refine L_box rfl rfl (fun bk1 => ?_)
  refine L_assign rfl rfl ?_
  refine L_nil ?_
  refine W_seq ?_
  have ho := hp; clear hp; obtain ⟨y1, hy1, hp⟩ := bind_any ho; clear ho
  have ho := hp; clear hp; obtain ⟨y2, hy2, hp⟩ := gb_any ho; clear ho
  have ho := hp; clear hp; obtain ⟨y3, hy3, hp⟩ := gb_any ho; clear ho
  have ho := hp; clear hp; obtain ⟨y4, hy4, hp⟩ := gb_any ho; clear ho
  have ho := hp; clear hp; obtain ⟨y5, hy5, hp⟩ := gb_any ho; clear ho
  have ho := hp; clear hp; obtain ⟨y6, hy6, hp⟩ := gb_any ho; clear ho
  have ho := hp; clear hp; obtain ⟨y7, hy7, hp⟩ := gb_any ho; clear ho
  have ho := hp; clear hp; obtain ⟨y8, hy8, hp⟩ := gb_any ho; clear ho
  have ho := hp; clear hp; obtain ⟨y9, hy9, hp⟩ := gb_any ho; clear ho
  have ho := hp; clear hp; obtain ⟨y10, hy10, hp⟩ := gb_any ho; clear ho
  have ho := hp; clear hp; obtain ⟨y11, hy11, hp⟩ := gb_any ho; clear ho
  refine W_D0 [2] mix (by kernel_rfl) rfl ?_
  refine D_fieldAddr GC.none (OpV.t rfl) fld74_0.h ?_
  refine D_load GC.none (OpV.t rfl) (fun hg => RdC.blk (by first | (with_reducible repeat (first | exact List.Mem.head _ | apply List.Mem.tail)); done | (repeat (first | exact List.Mem.head _ | apply List.Mem.tail)))) one3.h rfl ?_
  refine D_callX GC.none fn60.h (OpVs.cons (OpV.t rfl) (OpVs.cons OpV.c (OpVs.cons OpV.c (OpVs.nil)))) (by exact fun hg w F hF hM => s_l1In_walk w a0_1 1 7  _ hy1) ?_
  refine D_move GC.none (OpV.t rfl) ?_
  refine D_fieldAddr (GC.some rfl rfl) (OpV.t rfl) fld74_1.h ?_
  refine D_load (GC.some rfl rfl) (OpV.s rfl) (fun hg => RdC.blk (by first | (with_reducible repeat (first | exact List.Mem.head _ | apply List.Mem.tail)); done | (repeat (first | exact List.Mem.head _ | apply List.Mem.tail)))) one3.h rfl ?_
  refine D_callX (GC.some rfl rfl) fn59.h (OpVs.cons (OpV.s rfl) (OpVs.nil)) (by exact fun hg w F hF hM => s_l9Node_walk w a0_2  _ (hy2 hg.2)) ?_
  refine D_and (cy := _) GC.none (OpV.t rfl) (OpV.s rfl) (fun h hb => ⟨h, hb⟩) ?_
  refine D_move GC.none (OpV.t rfl) ?_
  refine D_fieldAddr (GC.some rfl rfl) (OpV.t rfl) fld74_2.h ?_
  refine D_load (GC.some rfl rfl) (OpV.s rfl) (fun hg => RdC.blk (by first | (with_reducible repeat (first | exact List.Mem.head _ | apply List.Mem.tail)); done | (repeat (first | exact List.Mem.head _ | apply List.Mem.tail)))) one3.h rfl ?_
  refine D_callX (GC.some rfl rfl) fn59.h (OpVs.cons (OpV.s rfl) (OpVs.nil)) (by exact fun hg w F hF hM => s_l9Node_walk w a0_3  _ (hy3 hg.2)) ?_
  refine D_and (cy := _) GC.none (OpV.t rfl) (OpV.s rfl) (fun h hb => ⟨h, hb⟩) ?_
  refine D_move GC.none (OpV.t rfl) ?_
  refine D_fieldAddr (GC.some rfl rfl) (OpV.t rfl) fld74_1.h ?_
  refine D_load (GC.some rfl rfl) (OpV.s rfl) (fun hg => RdC.blk (by first | (with_reducible repeat (first | exact List.Mem.head _ | apply List.Mem.tail)); done | (repeat (first | exact List.Mem.head _ | apply List.Mem.tail)))) one3.h rfl ?_
  refine D_fieldAddr (GC.some rfl rfl) (OpV.t rfl) fld74_2.h ?_
  refine D_load (GC.some rfl rfl) (OpV.s rfl) (fun hg => RdC.blk (by first | (with_reducible repeat (first | exact List.Mem.head _ | apply List.Mem.tail)); done | (repeat (first | exact List.Mem.head _ | apply List.Mem.tail)))) one3.h rfl ?_
  refine D_bin (GC.some rfl rfl) (OpV.s rfl) (OpV.s rfl) (fun hg => bv_neq) ?_
  refine D_and (cy := _) GC.none (OpV.t rfl) (OpV.s rfl) (fun h hb => ⟨h, hb⟩) ?_
  refine D_move GC.none (OpV.t rfl) ?_
  refine D_fieldAddr (GC.some rfl rfl) (OpV.t rfl) fld74_3.h ?_
  refine D_loadW (GC.some rfl rfl) (OpV.s rfl) (fun hg => RdC.seg (RdC.blk (by first | (with_reducible repeat (first | exact List.Mem.head _ | apply List.Mem.tail)); done | (repeat (first | exact List.Mem.head _ | apply List.Mem.tail)))) 3 2 rfl) (by exact agg71.h) ?_
  refine D_callX (GC.some rfl rfl) fn64.h (OpVs.cons (OpV.s rfl) (OpVs.nil)) (by exact fun hg w F hF hM => s_l8Id_walk w (a0_4, a0_5) (RdT.nowS (RdT.pair RdT.int RdT.int) hF hM) _ (hy4 hg.2)) ?_
  refine D_and (cy := _) GC.none (OpV.t rfl) (OpV.s rfl) (fun h hb => ⟨h, hb⟩) ?_
  refine D_move GC.none (OpV.t rfl) ?_
  refine D_fieldAddr (GC.some rfl rfl) (OpV.t rfl) fld74_4.h ?_
  refine D_load (GC.some rfl rfl) (OpV.s rfl) (fun hg => RdC.blk (by first | (with_reducible repeat (first | exact List.Mem.head _ | apply List.Mem.tail)); done | (repeat (first | exact List.Mem.head _ | apply List.Mem.tail)))) one3.h rfl ?_
  refine D_callX (GC.some rfl rfl) fn60.h (OpVs.cons (OpV.s rfl) (OpVs.cons OpV.c (OpVs.cons OpV.c (OpVs.nil)))) (by exact fun hg w F hF hM => s_l1In_walk w a0_6 0 600  _ (hy5 hg.2)) ?_
  refine D_and (cy := _) GC.none (OpV.t rfl) (OpV.s rfl) (fun h hb => ⟨h, hb⟩) ?_
  refine D_move GC.none (OpV.t rfl) ?_
  refine D_fieldAddr (GC.some rfl rfl) (OpV.t rfl) fld74_5.h ?_
  refine D_loadW (GC.some rfl rfl) (OpV.s rfl) (fun hg => RdC.seg (RdC.blk (by first | (with_reducible repeat (first | exact List.Mem.head _ | apply List.Mem.tail)); done | (repeat (first | exact List.Mem.head _ | apply List.Mem.tail)))) 6 8 rfl) (by exact agg72.h) ?_
  refine D_callX (GC.some rfl rfl) fn65.h (OpVs.cons (OpV.s rfl) (OpVs.nil)) (by exact fun hg w F hF hM => s_CmdOk_walk w (a0_7, a0_8, a0_9, a0_10, a0_11, a0_12, a0_13, a0_14) (RdT.nowS (RdT.pair RdT.int (RdT.pair RdT.int (RdT.pair RdT.int (RdT.pair RdT.str (RdT.pair RdT.str (RdT.pair RdT.str (RdT.pair RdT.int (RdT.old h0.2.2.2.2.2.1.2.2.2.2.2.2.2)))))))) hF hM) _ (hy6 hg.2)) ?_
  refine D_and (cy := _) GC.none (OpV.t rfl) (OpV.s rfl) (fun h hb => ⟨h, hb⟩) ?_
  refine D_move GC.none (OpV.t rfl) ?_
  refine D_fieldAddr (GC.some rfl rfl) (OpV.t rfl) fld74_6.h ?_
  refine D_load (GC.some rfl rfl) (OpV.s rfl) (fun hg => RdC.blk (by first | (with_reducible repeat (first | exact List.Mem.head _ | apply List.Mem.tail)); done | (repeat (first | exact List.Mem.head _ | apply List.Mem.tail)))) one3.h rfl ?_
  refine D_callX (GC.some rfl rfl) fn60.h (OpVs.cons (OpV.s rfl) (OpVs.cons OpV.c (OpVs.cons OpV.c (OpVs.nil)))) (by exact fun hg w F hF hM => s_l1In_walk w a0_15 0 60  _ (hy7 hg.2)) ?_
  refine D_and (cy := _) GC.none (OpV.t rfl) (OpV.s rfl) (fun h hb => ⟨h, hb⟩) ?_
  refine D_move GC.none (OpV.t rfl) ?_
  refine D_fieldAddr (GC.some rfl rfl) (OpV.t rfl) fld74_7.h ?_
  refine D_load (GC.some rfl rfl) (OpV.s rfl) (fun hg => RdC.blk (by first | (with_reducible repeat (first | exact List.Mem.head _ | apply List.Mem.tail)); done | (repeat (first | exact List.Mem.head _ | apply List.Mem.tail)))) one51.h rfl ?_
  refine D_callX (GC.some rfl rfl) fn66.h (OpVs.cons (OpV.s rfl) (OpVs.nil)) (by exact fun hg w F hF hM => s_IdsOk_walk w a0_16 (RdT.nowS (RdT.old h0.2.2.2.2.2.2.2.1) hF hM) _ (hy8 hg.2)) ?_
  refine D_and (cy := _) GC.none (OpV.t rfl) (OpV.s rfl) (fun h hb => ⟨h, hb⟩) ?_
  refine D_move GC.none (OpV.t rfl) ?_
  refine D_fieldAddr (GC.some rfl rfl) (OpV.t rfl) fld74_7.h ?_
  refine D_load (GC.some rfl rfl) (OpV.s rfl) (fun hg => RdC.blk (by first | (with_reducible repeat (first | exact List.Mem.head _ | apply List.Mem.tail)); done | (repeat (first | exact List.Mem.head _ | apply List.Mem.tail)))) one51.h rfl ?_
  refine D_fieldAddr (GC.some rfl rfl) (OpV.t rfl) fld74_3.h ?_
  refine D_loadW (GC.some rfl rfl) (OpV.s rfl) (fun hg => RdC.seg (RdC.blk (by first | (with_reducible repeat (first | exact List.Mem.head _ | apply List.Mem.tail)); done | (repeat (first | exact List.Mem.head _ | apply List.Mem.tail)))) 3 2 rfl) (by exact agg71.h) ?_
  refine D_callX (GC.some rfl rfl) fn67.h (OpVs.cons (OpV.s rfl) (OpVs.cons (OpV.s rfl) (OpVs.nil))) (by exact fun hg w F hF hM => s_l8Has_walk w a0_16 (a0_4, a0_5) (RdT.nowS (RdT.old h0.2.2.2.2.2.2.2.1) hF hM) (RdT.nowS (RdT.pair RdT.int RdT.int) hF hM) _ (hy9 hg.2)) ?_
  refine D_not (GC.some rfl rfl) (OpV.s rfl) ?_
  refine D_and (cy := _) GC.none (OpV.t rfl) (OpV.s rfl) (fun h hb => ⟨h, hb⟩) ?_
  refine D_move GC.none (OpV.t rfl) ?_
  refine D_fieldAddr (GC.some rfl rfl) (OpV.t rfl) fld74_8.h ?_
  refine D_load (GC.some rfl rfl) (OpV.s rfl) (fun hg => RdC.blk (by first | (with_reducible repeat (first | exact List.Mem.head _ | apply List.Mem.tail)); done | (repeat (first | exact List.Mem.head _ | apply List.Mem.tail)))) one3.h rfl ?_
  refine D_callX (GC.some rfl rfl) fn60.h (OpVs.cons (OpV.s rfl) (OpVs.cons OpV.c (OpVs.cons OpV.c (OpVs.nil)))) (by exact fun hg w F hF hM => s_l1In_walk w a0_17 0 3  _ (hy10 hg.2)) ?_
  refine D_and (cy := _) GC.none (OpV.t rfl) (OpV.s rfl) (fun h hb => ⟨h, hb⟩) ?_
  refine D_move GC.none (OpV.t rfl) ?_
  refine D_fieldAddr (GC.some rfl rfl) (OpV.t rfl) fld74_9.h ?_
  refine D_load (GC.some rfl rfl) (OpV.s rfl) (fun hg => RdC.blk (by first | (with_reducible repeat (first | exact List.Mem.head _ | apply List.Mem.tail)); done | (repeat (first | exact List.Mem.head _ | apply List.Mem.tail)))) one3.h rfl ?_
  refine D_callX (GC.some rfl rfl) fn60.h (OpVs.cons (OpV.s rfl) (OpVs.cons OpV.c (OpVs.cons OpV.c (OpVs.nil)))) (by exact fun hg w F hF hM => s_l1In_walk w a0_18 (-1) 600  _ (hy11 hg.2)) ?_
  refine D_and (cy := _) GC.none (OpV.t rfl) (OpV.s rfl) (fun h hb => ⟨h, hb⟩) ?_
  refine D_assign GC.none (OpV.t rfl) ?_
  refine DV_nil ?_
  refine Give_is rfl rfl ?_
  refine Give_drop rfl ?_
  refine Give_drop rfl ?_
  refine Give_drop rfl ?_
  refine Give_drop rfl ?_
  refine Give_drop rfl ?_
  refine Give_drop rfl ?_
  refine Give_drop rfl ?_
  refine Give_drop rfl ?_
  refine Give_drop rfl ?_
  refine Give_drop rfl ?_
  refine Give_drop rfl ?_
  refine Give_drop rfl ?_
  refine Give_drop rfl ?_
  refine Give_drop rfl ?_
  refine Give_drop rfl ?_
  refine Give_drop rfl ?_
  refine Give_drop rfl ?_
  refine Give_drop rfl ?_
  refine Give_drop rfl ?_
  refine Give_drop rfl ?_
  refine Give_drop rfl ?_
  refine Give_drop rfl ?_
  refine Give_drop rfl ?_
  refine Give_drop rfl ?_
  refine Give_drop rfl ?_
  refine Give_drop rfl ?_
  refine Give_drop rfl ?_
  refine Give_drop rfl ?_
  refine Give_drop rfl ?_
  refine Give_drop rfl ?_
  refine Give_drop rfl ?_
  refine Give_drop rfl ?_
  refine Give_drop rfl ?_
  refine Give_drop rfl ?_
  refine Give_drop rfl ?_
  refine Give_drop rfl ?_
  refine Give_drop rfl ?_
  refine Give_drop rfl ?_
  refine Give_drop rfl ?_
  refine Give_drop rfl ?_
  refine Give_drop rfl ?_
  refine Give_drop rfl ?_
  refine Give_drop rfl ?_
  refine Give_drop rfl ?_
  refine Give_drop rfl ?_
  refine Give_drop rfl ?_
  refine Give_drop rfl ?_
  refine Give_drop rfl ?_
  refine Give_drop rfl ?_
  refine Give_drop rfl ?_
  refine Give_drop rfl ?_
  refine Give_drop rfl ?_
  refine Give_drop rfl ?_
  refine Give_drop rfl ?_
  refine Give_drop rfl ?_
  refine Give_drop rfl ?_
  refine Give_drop rfl ?_
  refine Give_drop rfl ?_
  refine Give_drop rfl ?_
  refine Give_drop rfl ?_
  refine Give_drop rfl ?_
  refine Give_drop rfl ?_
  refine Give_drop rfl ?_
  refine Give_nil ?_
  obtain rfl := Option.some.inj hp
  refine W_ret ?_
  refine res1 rfl (ResOK.tmp rfl) ⟨rfl, rfl⟩ (MSub.nil _)
noncomputable def s_l9Alike (a0 : List D_Id) (a1 : List D_Id) : Option Bool :=
  cond (!decide ((a0.length : Int) = (a1.length : Int))) (some false) (whileP (fun s2 : Int => cond (decide (s2 < (a0.length : Int))) (Option.bind (idx a0 s2) (fun y4 => Option.bind (idx a1 s2) (fun y5 => cond (!(decide (y4.1 = y5.1) && (decide (y4.2 = y5.2) && true))) (Option.map .inr (some false)) (some (.inl (IntKind.wrap .i64 (s2 + 1))))))) (Option.map .inr (some true))) 0)
theorem s_l9Alike_walk (w : World) (a0 : TL T_Id) (a1 : TL T_Id) (h0 : GT.rd w [] a0) (h1 : GT.rd w [] a1) (r : Bool) (hp : s_l9Alike (GT.dat a0) (GT.dat a1) = some r) : Spec Tryz.prog 113 [(TL.hdr a0), (TL.hdr a1)].toArray w [] (IsV (.bool r)) := by
  refine Spec.intro Tryz.func113 rfl Tryz.ntmps113 rfl ?_
  unfold s_l9Alike at hp
  replace hp := dd hp
  refine s13 ?_
  refine kp [0, 1, 10] ?_
  refine W_cond rfl (fun hc1 => ?_) (fun hc1 => ?_)
  · replace hp := cond_t hc1 hp
    refine s4 ?_
    obtain rfl := Option.some.inj hp
    refine s1 ?_
    refine res1 rfl (ResOK.tmp rfl) ⟨rfl, rfl⟩ ms
  · replace hp := cond_f hc1 hp
    refine s7 ?_
    refine W_while (σ := Int) GT.dat (fun (v2_0 : Int) => [(5, .int .i64 v2_0)]) (fun (v2_0 : Int) => []) [(0, _), (1, _)] [] 0 hp sb ms ?_
    clear hp
    rintro v2_0 x2 hp hx2
    replace hp := dd hp
    refine kq [0, 1, 5] ?_
    refine s8 ?_
    refine kp [0, 1, 5, 14] ?_
    refine W_cond rfl (fun hc3 => ?_) (fun hc3 => ?_)
    · replace hp := cond_t hc3 hp
      refine s4 ?_
      replace hp := idx_bind hp; obtain ⟨⟨u4_1, u4_2⟩, hy4, hp⟩ := hp
      replace hp := idx_bind hp; obtain ⟨⟨u5_1, u5_2⟩, hy5, hp⟩ := hp
      refine W_D0 [25] mix (by kernel_rfl) rfl ?_
      refine s2 ?_
      refine D_idxA (X := a0) GC.none (OpV.t rfl) (OpV.t rfl) el51.h (RdT.old h0) (fun _ => hy4) ?_
      refine D_loadW GC.none (OpV.t rfl) (fun hg => RdT.at (RdT.old h0) (hy4).2) (by exact agg71.h) ?_
      refine s2 ?_
      refine D_idxA (X := a1) GC.none (OpV.t rfl) (OpV.t rfl) el51.h (RdT.old h1) (fun _ => hy5) ?_
      refine D_loadW GC.none (OpV.t rfl) (fun hg => RdT.at (RdT.old h1) (hy5).2) (by exact agg71.h) ?_
      refine D_bin GC.none (OpV.t rfl) (OpV.t rfl) (fun hg => (bv_aneq eqsh71 (EqS.consI one3.h und3.h rfl rfl (EqS.consI one3.h und3.h rfl rfl EqS.nil)))) ?_
      refine s11 ?_
      refine kp [0, 1, 5, 25] ?_
      refine W_cond rfl (fun hc6 => ?_) (fun hc6 => ?_)
      · replace hp := cond_t hc6 hp
        refine s4 ?_
        replace hp := map_any hp; obtain ⟨a7, hp, hx_a7⟩ := hp
        obtain rfl := hx2 _ hx_a7
        obtain rfl := Option.some.inj hp
        refine s1 ?_
        refine res1 rfl (ResOK.tmp rfl) ⟨rfl, rfl⟩ ms
      · replace hp := cond_f hc6 hp
        refine s6 ?_
        exact ⟨IntKind.wrap .i64 (v2_0 + 1), sb, (.sub ms), some_eq hp⟩
    · replace hp := cond_f hc3 hp
      refine W_exit ?_
      replace hp := map_any hp; obtain ⟨a8, hp, hx_a8⟩ := hp
      obtain rfl := hx2 _ hx_a8
      refine s4 ?_
      obtain rfl := Option.some.inj hp
      refine s1 ?_
      refine res1 rfl (ResOK.tmp rfl) ⟨rfl, rfl⟩ ms
noncomputable def s_SameMsg (a0 : D_EMsg) (a1 : D_EMsg) : Option Bool :=
  gb (((((decide (a0.1 = a1.1)) && (decide (a0.2.1 = a1.2.1))) && (decide (a0.2.2.1 = a1.2.2.1))) && (decide (a0.2.2.2.1.1 = a1.2.2.2.1.1) && (decide (a0.2.2.2.1.2 = a1.2.2.2.1.2) && true))) && (decide (a0.2.2.2.2.1 = a1.2.2.2.2.1))) (s_SameCmd (a0.2.2.2.2.2.1.1, a0.2.2.2.2.2.1.2.1, a0.2.2.2.2.2.1.2.2.1, a0.2.2.2.2.2.1.2.2.2.1, a0.2.2.2.2.2.1.2.2.2.2.1, a0.2.2.2.2.2.1.2.2.2.2.2.1, a0.2.2.2.2.2.1.2.2.2.2.2.2.1, a0.2.2.2.2.2.1.2.2.2.2.2.2.2) (a1.2.2.2.2.2.1.1, a1.2.2.2.2.2.1.2.1, a1.2.2.2.2.2.1.2.2.1, a1.2.2.2.2.2.1.2.2.2.1, a1.2.2.2.2.2.1.2.2.2.2.1, a1.2.2.2.2.2.1.2.2.2.2.2.1, a1.2.2.2.2.2.1.2.2.2.2.2.2.1, a1.2.2.2.2.2.1.2.2.2.2.2.2.2)) (fun y1 => gb (((((((decide (a0.1 = a1.1)) && (decide (a0.2.1 = a1.2.1))) && (decide (a0.2.2.1 = a1.2.2.1))) && (decide (a0.2.2.2.1.1 = a1.2.2.2.1.1) && (decide (a0.2.2.2.1.2 = a1.2.2.2.1.2) && true))) && (decide (a0.2.2.2.2.1 = a1.2.2.2.2.1))) && y1) && (decide (a0.2.2.2.2.2.2.1 = a1.2.2.2.2.2.2.1))) (s_l9Alike a0.2.2.2.2.2.2.2.1 a1.2.2.2.2.2.2.2.1) (fun y2 => some (((((((((((decide (a0.1 = a1.1)) && (decide (a0.2.1 = a1.2.1))) && (decide (a0.2.2.1 = a1.2.2.1))) && (decide (a0.2.2.2.1.1 = a1.2.2.2.1.1) && (decide (a0.2.2.2.1.2 = a1.2.2.2.1.2) && true))) && (decide (a0.2.2.2.2.1 = a1.2.2.2.2.1))) && y1) && (decide (a0.2.2.2.2.2.2.1 = a1.2.2.2.2.2.2.1))) && y2) && (decide (a0.2.2.2.2.2.2.2.2.1 = a1.2.2.2.2.2.2.2.2.1))) && (decide (a0.2.2.2.2.2.2.2.2.2.1 = a1.2.2.2.2.2.2.2.2.2.1))) && (a0.2.2.2.2.2.2.2.2.2.2 == a1.2.2.2.2.2.2.2.2.2.2))))
theorem s_SameMsg_walk (w : World) (a0 : T_EMsg) (a1 : T_EMsg) (h0 : GT.rd w [] a0) (h1 : GT.rd w [] a1) (r : Bool) (hp : s_SameMsg (GT.dat a0) (GT.dat a1) = some r) : Spec Tryz.prog 68 [.agg (GT.cells a0).toArray, .agg (GT.cells a1).toArray].toArray w [] (IsV (.bool r)) := by
  obtain ⟨a0_1, a0_2, a0_3, ⟨a0_4, a0_5⟩, a0_6, ⟨a0_7, a0_8, a0_9, a0_10, a0_11, a0_12, a0_13, a0_14⟩, a0_15, a0_16, a0_17, a0_18, a0_19⟩ := a0
  obtain ⟨a1_1, a1_2, a1_3, ⟨a1_4, a1_5⟩, a1_6, ⟨a1_7, a1_8, a1_9, a1_10, a1_11, a1_12, a1_13, a1_14⟩, a1_15, a1_16, a1_17, a1_18, a1_19⟩ := a1
  change Spec _ _ ([Value.agg #[.int .i64 a0_1, .int .i64 a0_2, .int .i64 a0_3, .int .i64 a0_4, .int .i64 a0_5, .int .i64 a0_6, .int .i64 a0_7, .int .i64 a0_8, .int .i64 a0_9, .string a0_10, .string a0_11, .string a0_12, .int .i64 a0_13, (TL.hdr a0_14), .int .i64 a0_15, (TL.hdr a0_16), .int .i64 a0_17, .int .i64 a0_18, .bool a0_19], Value.agg #[.int .i64 a1_1, .int .i64 a1_2, .int .i64 a1_3, .int .i64 a1_4, .int .i64 a1_5, .int .i64 a1_6, .int .i64 a1_7, .int .i64 a1_8, .int .i64 a1_9, .string a1_10, .string a1_11, .string a1_12, .int .i64 a1_13, (TL.hdr a1_14), .int .i64 a1_15, (TL.hdr a1_16), .int .i64 a1_17, .int .i64 a1_18, .bool a1_19]] : List Value).toArray w [] _
  refine Spec.intro Tryz.func68 rfl Tryz.ntmps68 rfl ?_
  unfold s_SameMsg at hp
  try dsimp only [dat_pair, dat_int, dat_bool, dat_str, dat_ar] at hp
  refine W_seq ?_
  refine W_region ?_
  refine L_box rfl rfl (fun bk2 => ?_)
  refine L_box rfl rfl (fun bk3 => ?_)
  refine L_assign rfl rfl ?_
  refine L_nil ?_
  refine W_seq ?_
  have ho := hp; clear hp; obtain ⟨y1, hy1, hp⟩ := gb_any ho; clear ho
  have ho := hp; clear hp; obtain ⟨y2, hy2, hp⟩ := gb_any ho; clear ho
  refine W_D0 [4] mix (by kernel_rfl) rfl ?_
  refine D_fieldAddr GC.none (OpV.t rfl) fld74_0.h ?_
  refine D_load GC.none (OpV.t rfl) (fun hg => RdC.blk (by first | (with_reducible repeat (first | exact List.Mem.head _ | apply List.Mem.tail)); done | (repeat (first | exact List.Mem.head _ | apply List.Mem.tail)))) one3.h rfl ?_
  refine D_fieldAddr GC.none (OpV.t rfl) fld74_0.h ?_
  refine D_load GC.none (OpV.t rfl) (fun hg => RdC.blk (by first | (with_reducible repeat (first | exact List.Mem.head _ | apply List.Mem.tail)); done | (repeat (first | exact List.Mem.head _ | apply List.Mem.tail)))) one3.h rfl ?_
  refine D_bin GC.none (OpV.t rfl) (OpV.t rfl) (fun hg => bv_eql) ?_
  refine D_move GC.none (OpV.t rfl) ?_
  refine D_fieldAddr (GC.some rfl rfl) (OpV.t rfl) fld74_1.h ?_
  refine D_load (GC.some rfl rfl) (OpV.s rfl) (fun hg => RdC.blk (by first | (with_reducible repeat (first | exact List.Mem.head _ | apply List.Mem.tail)); done | (repeat (first | exact List.Mem.head _ | apply List.Mem.tail)))) one3.h rfl ?_
  refine D_fieldAddr (GC.some rfl rfl) (OpV.t rfl) fld74_1.h ?_
  refine D_load (GC.some rfl rfl) (OpV.s rfl) (fun hg => RdC.blk (by first | (with_reducible repeat (first | exact List.Mem.head _ | apply List.Mem.tail)); done | (repeat (first | exact List.Mem.head _ | apply List.Mem.tail)))) one3.h rfl ?_
  refine D_bin (GC.some rfl rfl) (OpV.s rfl) (OpV.s rfl) (fun hg => bv_eql) ?_
  refine D_and (cy := _) GC.none (OpV.t rfl) (OpV.s rfl) (fun h hb => ⟨h, hb⟩) ?_
  refine D_move GC.none (OpV.t rfl) ?_
  refine D_fieldAddr (GC.some rfl rfl) (OpV.t rfl) fld74_2.h ?_
  refine D_load (GC.some rfl rfl) (OpV.s rfl) (fun hg => RdC.blk (by first | (with_reducible repeat (first | exact List.Mem.head _ | apply List.Mem.tail)); done | (repeat (first | exact List.Mem.head _ | apply List.Mem.tail)))) one3.h rfl ?_
  refine D_fieldAddr (GC.some rfl rfl) (OpV.t rfl) fld74_2.h ?_
  refine D_load (GC.some rfl rfl) (OpV.s rfl) (fun hg => RdC.blk (by first | (with_reducible repeat (first | exact List.Mem.head _ | apply List.Mem.tail)); done | (repeat (first | exact List.Mem.head _ | apply List.Mem.tail)))) one3.h rfl ?_
  refine D_bin (GC.some rfl rfl) (OpV.s rfl) (OpV.s rfl) (fun hg => bv_eql) ?_
  refine D_and (cy := _) GC.none (OpV.t rfl) (OpV.s rfl) (fun h hb => ⟨h, hb⟩) ?_
  refine D_move GC.none (OpV.t rfl) ?_
  refine D_fieldAddr (GC.some rfl rfl) (OpV.t rfl) fld74_3.h ?_
  refine D_loadW (GC.some rfl rfl) (OpV.s rfl) (fun hg => RdC.seg (RdC.blk (by first | (with_reducible repeat (first | exact List.Mem.head _ | apply List.Mem.tail)); done | (repeat (first | exact List.Mem.head _ | apply List.Mem.tail)))) 3 2 rfl) (by exact agg71.h) ?_
  refine D_fieldAddr (GC.some rfl rfl) (OpV.t rfl) fld74_3.h ?_
  refine D_loadW (GC.some rfl rfl) (OpV.s rfl) (fun hg => RdC.seg (RdC.blk (by first | (with_reducible repeat (first | exact List.Mem.head _ | apply List.Mem.tail)); done | (repeat (first | exact List.Mem.head _ | apply List.Mem.tail)))) 3 2 rfl) (by exact agg71.h) ?_
  refine D_bin (GC.some rfl rfl) (OpV.s rfl) (OpV.s rfl) (fun hg => (bv_aeql eqsh71 (EqS.consI one3.h und3.h rfl rfl (EqS.consI one3.h und3.h rfl rfl EqS.nil)))) ?_
  refine D_and (cy := _) GC.none (OpV.t rfl) (OpV.s rfl) (fun h hb => ⟨h, hb⟩) ?_
  refine D_move GC.none (OpV.t rfl) ?_
  refine D_fieldAddr (GC.some rfl rfl) (OpV.t rfl) fld74_4.h ?_
  refine D_load (GC.some rfl rfl) (OpV.s rfl) (fun hg => RdC.blk (by first | (with_reducible repeat (first | exact List.Mem.head _ | apply List.Mem.tail)); done | (repeat (first | exact List.Mem.head _ | apply List.Mem.tail)))) one3.h rfl ?_
  refine D_fieldAddr (GC.some rfl rfl) (OpV.t rfl) fld74_4.h ?_
  refine D_load (GC.some rfl rfl) (OpV.s rfl) (fun hg => RdC.blk (by first | (with_reducible repeat (first | exact List.Mem.head _ | apply List.Mem.tail)); done | (repeat (first | exact List.Mem.head _ | apply List.Mem.tail)))) one3.h rfl ?_
  refine D_bin (GC.some rfl rfl) (OpV.s rfl) (OpV.s rfl) (fun hg => bv_eql) ?_
  refine D_and (cy := _) GC.none (OpV.t rfl) (OpV.s rfl) (fun h hb => ⟨h, hb⟩) ?_
  refine D_move GC.none (OpV.t rfl) ?_
  refine D_fieldAddr (GC.some rfl rfl) (OpV.t rfl) fld74_5.h ?_
  refine D_loadW (GC.some rfl rfl) (OpV.s rfl) (fun hg => RdC.seg (RdC.blk (by first | (with_reducible repeat (first | exact List.Mem.head _ | apply List.Mem.tail)); done | (repeat (first | exact List.Mem.head _ | apply List.Mem.tail)))) 6 8 rfl) (by exact agg72.h) ?_
  refine D_fieldAddr (GC.some rfl rfl) (OpV.t rfl) fld74_5.h ?_
  refine D_loadW (GC.some rfl rfl) (OpV.s rfl) (fun hg => RdC.seg (RdC.blk (by first | (with_reducible repeat (first | exact List.Mem.head _ | apply List.Mem.tail)); done | (repeat (first | exact List.Mem.head _ | apply List.Mem.tail)))) 6 8 rfl) (by exact agg72.h) ?_
  refine D_callX (GC.some rfl rfl) fn111.h (OpVs.cons (OpV.s rfl) (OpVs.cons (OpV.s rfl) (OpVs.nil))) (by exact fun hg w F hF hM => s_SameCmd_walk w (a0_7, a0_8, a0_9, a0_10, a0_11, a0_12, a0_13, a0_14) (a1_7, a1_8, a1_9, a1_10, a1_11, a1_12, a1_13, a1_14) (RdT.nowS (RdT.pair RdT.int (RdT.pair RdT.int (RdT.pair RdT.int (RdT.pair RdT.str (RdT.pair RdT.str (RdT.pair RdT.str (RdT.pair RdT.int (RdT.old h0.2.2.2.2.2.1.2.2.2.2.2.2.2)))))))) hF hM) (RdT.nowS (RdT.pair RdT.int (RdT.pair RdT.int (RdT.pair RdT.int (RdT.pair RdT.str (RdT.pair RdT.str (RdT.pair RdT.str (RdT.pair RdT.int (RdT.old h1.2.2.2.2.2.1.2.2.2.2.2.2.2)))))))) hF hM) _ (hy1 hg.2)) ?_
  refine D_and (cy := _) GC.none (OpV.t rfl) (OpV.s rfl) (fun h hb => ⟨h, hb⟩) ?_
  refine D_move GC.none (OpV.t rfl) ?_
  refine D_fieldAddr (GC.some rfl rfl) (OpV.t rfl) fld74_6.h ?_
  refine D_load (GC.some rfl rfl) (OpV.s rfl) (fun hg => RdC.blk (by first | (with_reducible repeat (first | exact List.Mem.head _ | apply List.Mem.tail)); done | (repeat (first | exact List.Mem.head _ | apply List.Mem.tail)))) one3.h rfl ?_
  refine D_fieldAddr (GC.some rfl rfl) (OpV.t rfl) fld74_6.h ?_
  refine D_load (GC.some rfl rfl) (OpV.s rfl) (fun hg => RdC.blk (by first | (with_reducible repeat (first | exact List.Mem.head _ | apply List.Mem.tail)); done | (repeat (first | exact List.Mem.head _ | apply List.Mem.tail)))) one3.h rfl ?_
  refine D_bin (GC.some rfl rfl) (OpV.s rfl) (OpV.s rfl) (fun hg => bv_eql) ?_
  refine D_and (cy := _) GC.none (OpV.t rfl) (OpV.s rfl) (fun h hb => ⟨h, hb⟩) ?_
  refine D_move GC.none (OpV.t rfl) ?_
  refine D_fieldAddr (GC.some rfl rfl) (OpV.t rfl) fld74_7.h ?_
  refine D_load (GC.some rfl rfl) (OpV.s rfl) (fun hg => RdC.blk (by first | (with_reducible repeat (first | exact List.Mem.head _ | apply List.Mem.tail)); done | (repeat (first | exact List.Mem.head _ | apply List.Mem.tail)))) one51.h rfl ?_
  refine D_fieldAddr (GC.some rfl rfl) (OpV.t rfl) fld74_7.h ?_
  refine D_load (GC.some rfl rfl) (OpV.s rfl) (fun hg => RdC.blk (by first | (with_reducible repeat (first | exact List.Mem.head _ | apply List.Mem.tail)); done | (repeat (first | exact List.Mem.head _ | apply List.Mem.tail)))) one51.h rfl ?_
  refine D_callX (GC.some rfl rfl) fn113.h (OpVs.cons (OpV.s rfl) (OpVs.cons (OpV.s rfl) (OpVs.nil))) (by exact fun hg w F hF hM => s_l9Alike_walk w a0_16 a1_16 (RdT.nowS (RdT.old h0.2.2.2.2.2.2.2.1) hF hM) (RdT.nowS (RdT.old h1.2.2.2.2.2.2.2.1) hF hM) _ (hy2 hg.2)) ?_
  refine D_and (cy := _) GC.none (OpV.t rfl) (OpV.s rfl) (fun h hb => ⟨h, hb⟩) ?_
  refine D_move GC.none (OpV.t rfl) ?_
  refine D_fieldAddr (GC.some rfl rfl) (OpV.t rfl) fld74_8.h ?_
  refine D_load (GC.some rfl rfl) (OpV.s rfl) (fun hg => RdC.blk (by first | (with_reducible repeat (first | exact List.Mem.head _ | apply List.Mem.tail)); done | (repeat (first | exact List.Mem.head _ | apply List.Mem.tail)))) one3.h rfl ?_
  refine D_fieldAddr (GC.some rfl rfl) (OpV.t rfl) fld74_8.h ?_
  refine D_load (GC.some rfl rfl) (OpV.s rfl) (fun hg => RdC.blk (by first | (with_reducible repeat (first | exact List.Mem.head _ | apply List.Mem.tail)); done | (repeat (first | exact List.Mem.head _ | apply List.Mem.tail)))) one3.h rfl ?_
  refine D_bin (GC.some rfl rfl) (OpV.s rfl) (OpV.s rfl) (fun hg => bv_eql) ?_
  refine D_and (cy := _) GC.none (OpV.t rfl) (OpV.s rfl) (fun h hb => ⟨h, hb⟩) ?_
  refine D_move GC.none (OpV.t rfl) ?_
  refine D_fieldAddr (GC.some rfl rfl) (OpV.t rfl) fld74_9.h ?_
  refine D_load (GC.some rfl rfl) (OpV.s rfl) (fun hg => RdC.blk (by first | (with_reducible repeat (first | exact List.Mem.head _ | apply List.Mem.tail)); done | (repeat (first | exact List.Mem.head _ | apply List.Mem.tail)))) one3.h rfl ?_
  refine D_fieldAddr (GC.some rfl rfl) (OpV.t rfl) fld74_9.h ?_
  refine D_load (GC.some rfl rfl) (OpV.s rfl) (fun hg => RdC.blk (by first | (with_reducible repeat (first | exact List.Mem.head _ | apply List.Mem.tail)); done | (repeat (first | exact List.Mem.head _ | apply List.Mem.tail)))) one3.h rfl ?_
  refine D_bin (GC.some rfl rfl) (OpV.s rfl) (OpV.s rfl) (fun hg => bv_eql) ?_
  refine D_and (cy := _) GC.none (OpV.t rfl) (OpV.s rfl) (fun h hb => ⟨h, hb⟩) ?_
  refine D_move GC.none (OpV.t rfl) ?_
  refine D_fieldAddr (GC.some rfl rfl) (OpV.t rfl) fld74_10.h ?_
  refine D_load (GC.some rfl rfl) (OpV.s rfl) (fun hg => RdC.blk (by first | (with_reducible repeat (first | exact List.Mem.head _ | apply List.Mem.tail)); done | (repeat (first | exact List.Mem.head _ | apply List.Mem.tail)))) one4.h rfl ?_
  refine D_fieldAddr (GC.some rfl rfl) (OpV.t rfl) fld74_10.h ?_
  refine D_load (GC.some rfl rfl) (OpV.s rfl) (fun hg => RdC.blk (by first | (with_reducible repeat (first | exact List.Mem.head _ | apply List.Mem.tail)); done | (repeat (first | exact List.Mem.head _ | apply List.Mem.tail)))) one4.h rfl ?_
  refine D_bin (GC.some rfl rfl) (OpV.s rfl) (OpV.s rfl) (fun hg => (bv_beql und4.h)) ?_
  refine D_and (cy := _) GC.none (OpV.t rfl) (OpV.s rfl) (fun h hb => ⟨h, hb⟩) ?_
  refine D_assign GC.none (OpV.t rfl) ?_
  refine DV_nil ?_
  refine Give_is rfl rfl ?_
  refine Give_drop rfl ?_
  refine Give_drop rfl ?_
  refine Give_drop rfl ?_
  refine Give_drop rfl ?_
  refine Give_drop rfl ?_
  refine Give_drop rfl ?_
  refine Give_drop rfl ?_
  refine Give_drop rfl ?_
  refine Give_drop rfl ?_
  refine Give_drop rfl ?_
  refine Give_drop rfl ?_
  refine Give_drop rfl ?_
  refine Give_drop rfl ?_
  refine Give_drop rfl ?_
  refine Give_drop rfl ?_
  refine Give_drop rfl ?_
  refine Give_drop rfl ?_
  refine Give_drop rfl ?_
  refine Give_drop rfl ?_
  refine Give_drop rfl ?_
  refine Give_drop rfl ?_
  refine Give_drop rfl ?_
  refine Give_drop rfl ?_
  refine Give_drop rfl ?_
  refine Give_drop rfl ?_
  refine Give_drop rfl ?_
  refine Give_drop rfl ?_
  refine Give_drop rfl ?_
  refine Give_drop rfl ?_
  refine Give_drop rfl ?_
  refine Give_drop rfl ?_
  refine Give_drop rfl ?_
  refine Give_drop rfl ?_
  refine Give_drop rfl ?_
  refine Give_drop rfl ?_
  refine Give_drop rfl ?_
  refine Give_drop rfl ?_
  refine Give_drop rfl ?_
  refine Give_drop rfl ?_
  refine Give_drop rfl ?_
  refine Give_drop rfl ?_
  refine Give_drop rfl ?_
  refine Give_drop rfl ?_
  refine Give_drop rfl ?_
  refine Give_drop rfl ?_
  refine Give_drop rfl ?_
  refine Give_drop rfl ?_
  refine Give_drop rfl ?_
  refine Give_drop rfl ?_
  refine Give_drop rfl ?_
  refine Give_drop rfl ?_
  refine Give_drop rfl ?_
  refine Give_drop rfl ?_
  refine Give_drop rfl ?_
  refine Give_drop rfl ?_
  refine Give_drop rfl ?_
  refine Give_drop rfl ?_
  refine Give_drop rfl ?_
  refine Give_drop rfl ?_
  refine Give_drop rfl ?_
  refine Give_drop rfl ?_
  refine Give_drop rfl ?_
  refine Give_drop rfl ?_
  refine Give_drop rfl ?_
  refine Give_drop rfl ?_
  refine Give_drop rfl ?_
  refine Give_drop rfl ?_
  refine Give_drop rfl ?_
  refine Give_drop rfl ?_
  refine Give_drop rfl ?_
  refine Give_drop rfl ?_
  refine Give_drop rfl ?_
  refine Give_drop rfl ?_
  refine Give_drop rfl ?_
  refine Give_drop rfl ?_
  refine Give_nil ?_
  obtain rfl := Option.some.inj hp
  refine W_ret ?_
  refine res1 rfl (ResOK.tmp rfl) ⟨rfl, rfl⟩ (MSub.nil _)
noncomputable def s_l11Has (a0 : List D_EMsg) (a1 : D_EMsg) : Option Bool :=
  whileP (fun s1 : Int => cond (decide (s1 < (a0.length : Int))) (Option.bind (idx a0 s1) (fun y3 => Option.bind (s_SameMsg (y3.1, y3.2.1, y3.2.2.1, (y3.2.2.2.1.1, y3.2.2.2.1.2), y3.2.2.2.2.1, (y3.2.2.2.2.2.1.1, y3.2.2.2.2.2.1.2.1, y3.2.2.2.2.2.1.2.2.1, y3.2.2.2.2.2.1.2.2.2.1, y3.2.2.2.2.2.1.2.2.2.2.1, y3.2.2.2.2.2.1.2.2.2.2.2.1, y3.2.2.2.2.2.1.2.2.2.2.2.2.1, y3.2.2.2.2.2.1.2.2.2.2.2.2.2), y3.2.2.2.2.2.2.1, y3.2.2.2.2.2.2.2.1, y3.2.2.2.2.2.2.2.2.1, y3.2.2.2.2.2.2.2.2.2.1, y3.2.2.2.2.2.2.2.2.2.2) (a1.1, a1.2.1, a1.2.2.1, (a1.2.2.2.1.1, a1.2.2.2.1.2), a1.2.2.2.2.1, (a1.2.2.2.2.2.1.1, a1.2.2.2.2.2.1.2.1, a1.2.2.2.2.2.1.2.2.1, a1.2.2.2.2.2.1.2.2.2.1, a1.2.2.2.2.2.1.2.2.2.2.1, a1.2.2.2.2.2.1.2.2.2.2.2.1, a1.2.2.2.2.2.1.2.2.2.2.2.2.1, a1.2.2.2.2.2.1.2.2.2.2.2.2.2), a1.2.2.2.2.2.2.1, a1.2.2.2.2.2.2.2.1, a1.2.2.2.2.2.2.2.2.1, a1.2.2.2.2.2.2.2.2.2.1, a1.2.2.2.2.2.2.2.2.2.2)) (fun y4 => cond y4 (Option.map .inr (some true)) (some (.inl (IntKind.wrap .i64 (s1 + 1))))))) (Option.map .inr (some false))) 0
theorem s_l11Has_walk (w : World) (a0 : TL T_EMsg) (a1 : T_EMsg) (h0 : GT.rd w [] a0) (h1 : GT.rd w [] a1) (r : Bool) (hp : s_l11Has (GT.dat a0) (GT.dat a1) = some r) : Spec Tryz.prog 34 [(TL.hdr a0), .agg (GT.cells a1).toArray].toArray w [] (IsV (.bool r)) := by
  obtain ⟨a1_1, a1_2, a1_3, ⟨a1_4, a1_5⟩, a1_6, ⟨a1_7, a1_8, a1_9, a1_10, a1_11, a1_12, a1_13, a1_14⟩, a1_15, a1_16, a1_17, a1_18, a1_19⟩ := a1
  change Spec _ _ ([(TL.hdr a0), Value.agg #[.int .i64 a1_1, .int .i64 a1_2, .int .i64 a1_3, .int .i64 a1_4, .int .i64 a1_5, .int .i64 a1_6, .int .i64 a1_7, .int .i64 a1_8, .int .i64 a1_9, .string a1_10, .string a1_11, .string a1_12, .int .i64 a1_13, (TL.hdr a1_14), .int .i64 a1_15, (TL.hdr a1_16), .int .i64 a1_17, .int .i64 a1_18, .bool a1_19]] : List Value).toArray w [] _
  refine Spec.intro Tryz.func34 rfl Tryz.ntmps34 rfl ?_
  unfold s_l11Has at hp
  replace hp := dd hp
  refine s2 ?_
  refine bx fun bk3 => ?_
  refine s8 ?_
  refine W_while (σ := Int) GT.dat (fun (v1_0 : Int) => [(5, .int .i64 v1_0)]) (fun (v1_0 : Int) => []) [(0, _), (3, _)] [blk bk3 _ _] 0 hp sb ms ?_
  clear hp
  rintro v1_0 x1 hp hx1
  replace hp := dd hp
  refine kq [0, 3, 5] ?_
  refine s8 ?_
  refine kp [0, 3, 5, 9] ?_
  refine W_cond rfl (fun hc2 => ?_) (fun hc2 => ?_)
  · replace hp := cond_t hc2 hp
    refine s4 ?_
    replace hp := idx_bind hp; obtain ⟨⟨u3_1, u3_2, u3_3, ⟨u3_4, u3_5⟩, u3_6, ⟨u3_7, u3_8, u3_9, u3_10, u3_11, u3_12, u3_13, u3_14⟩, u3_15, u3_16, u3_17, u3_18, u3_19⟩, hy3, hp⟩ := hp
    replace hp := ba hp; obtain ⟨y4, hy4, hp⟩ := hp
    refine W_D0 [17] mix (by kernel_rfl) rfl ?_
    refine s2 ?_
    refine D_idxA (X := a0) GC.none (OpV.t rfl) (OpV.t rfl) el29.h (RdT.old h0) (fun _ => hy3) ?_
    refine D_loadW GC.none (OpV.t rfl) (fun hg => RdT.at (RdT.old h0) (hy3).2) (by exact agg74.h) ?_
    refine s1 ?_
    refine D_callX GC.none fn68.h (OpVs.cons (OpV.t rfl) (OpVs.cons (OpV.t rfl) (OpVs.nil))) (by exact fun hg w F hF hM => s_SameMsg_walk w (u3_1, u3_2, u3_3, (u3_4, u3_5), u3_6, (u3_7, u3_8, u3_9, u3_10, u3_11, u3_12, u3_13, u3_14), u3_15, u3_16, u3_17, u3_18, u3_19) (a1_1, a1_2, a1_3, (a1_4, a1_5), a1_6, (a1_7, a1_8, a1_9, a1_10, a1_11, a1_12, a1_13, a1_14), a1_15, a1_16, a1_17, a1_18, a1_19) (RdT.nowS (RdT.pair RdT.int (RdT.pair RdT.int (RdT.pair RdT.int (RdT.pair (RdT.pair RdT.int RdT.int) (RdT.pair RdT.int (RdT.pair (RdT.pair RdT.int (RdT.pair RdT.int (RdT.pair RdT.int (RdT.pair RdT.str (RdT.pair RdT.str (RdT.pair RdT.str (RdT.pair RdT.int (RdT.snd (RdT.snd (RdT.snd (RdT.snd (RdT.snd (RdT.snd (RdT.snd (RdT.fst (RdT.snd (RdT.snd (RdT.snd (RdT.snd (RdT.snd (RdT.of (RdT.old h0) (hy3).2))))))))))))))))))))) (RdT.pair RdT.int (RdT.pair (RdT.fst (RdT.snd (RdT.snd (RdT.snd (RdT.snd (RdT.snd (RdT.snd (RdT.snd (RdT.of (RdT.old h0) (hy3).2))))))))) (RdT.pair RdT.int (RdT.pair RdT.int RdT.bool)))))))))) hF hM) (RdT.nowS (RdT.pair RdT.int (RdT.pair RdT.int (RdT.pair RdT.int (RdT.pair (RdT.pair RdT.int RdT.int) (RdT.pair RdT.int (RdT.pair (RdT.pair RdT.int (RdT.pair RdT.int (RdT.pair RdT.int (RdT.pair RdT.str (RdT.pair RdT.str (RdT.pair RdT.str (RdT.pair RdT.int (RdT.old h1.2.2.2.2.2.1.2.2.2.2.2.2.2)))))))) (RdT.pair RdT.int (RdT.pair (RdT.old h1.2.2.2.2.2.2.2.1) (RdT.pair RdT.int (RdT.pair RdT.int RdT.bool)))))))))) hF hM) _ hy4) ?_
    refine s8 ?_
    refine kp [0, 3, 5, 17] ?_
    refine W_cond rfl (fun hc5 => ?_) (fun hc5 => ?_)
    · replace hp := cond_t hc5 hp
      refine s4 ?_
      replace hp := map_any hp; obtain ⟨a6, hp, hx_a6⟩ := hp
      obtain rfl := hx1 _ hx_a6
      obtain rfl := Option.some.inj hp
      refine s1 ?_
      refine res1 rfl (ResOK.tmp rfl) ⟨rfl, rfl⟩ ms
    · replace hp := cond_f hc5 hp
      refine s6 ?_
      exact ⟨IntKind.wrap .i64 (v1_0 + 1), sb, (.sub ms), some_eq hp⟩
  · replace hp := cond_f hc2 hp
    refine W_exit ?_
    replace hp := map_any hp; obtain ⟨a7, hp, hx_a7⟩ := hp
    obtain rfl := hx1 _ hx_a7
    refine s4 ?_
    obtain rfl := Option.some.inj hp
    refine s1 ?_
    refine res1 rfl (ResOK.tmp rfl) ⟨rfl, rfl⟩ ms
noncomputable def s_ENetOk (a0 : D_ENet) : Option Bool :=
  cond ((!decide ((a0.1.length : Int) = 3)) || (decide (160 < (a0.2.length : Int)))) (some false) (whileP (fun s2 : Int => cond (decide (s2 < 3)) (Option.bind (idx a0.1 s2) (fun y4 => Option.bind (s_ENodeOk (y4.1, y4.2.1, y4.2.2.1, y4.2.2.2)) (fun y5 => gb (!(!y5)) (idx a0.1 s2) (fun y6 => cond ((!y5) || (!decide (y6.1 = s2))) (Option.map .inr (some false)) (some (.inl (IntKind.wrap .i64 (s2 + 1)))))))) (Option.map .inr (whileP (fun s10 : Int => cond (decide (s10 < (a0.2.length : Int))) (Option.bind (idx a0.2 s10) (fun y12 => Option.bind (s_EMsgOk (y12.1, y12.2.1, y12.2.2.1, (y12.2.2.2.1.1, y12.2.2.2.1.2), y12.2.2.2.2.1, (y12.2.2.2.2.2.1.1, y12.2.2.2.2.2.1.2.1, y12.2.2.2.2.2.1.2.2.1, y12.2.2.2.2.2.1.2.2.2.1, y12.2.2.2.2.2.1.2.2.2.2.1, y12.2.2.2.2.2.1.2.2.2.2.2.1, y12.2.2.2.2.2.1.2.2.2.2.2.2.1, y12.2.2.2.2.2.1.2.2.2.2.2.2.2), y12.2.2.2.2.2.2.1, y12.2.2.2.2.2.2.2.1, y12.2.2.2.2.2.2.2.2.1, y12.2.2.2.2.2.2.2.2.2.1, y12.2.2.2.2.2.2.2.2.2.2)) (fun y13 => gb (!(!y13)) (slcP a0.2 0 s10) (fun y15 => gb (!(!y13)) (idx a0.2 s10) (fun y16 => gb (!(!y13)) (s_l11Has y15 (y16.1, y16.2.1, y16.2.2.1, (y16.2.2.2.1.1, y16.2.2.2.1.2), y16.2.2.2.2.1, (y16.2.2.2.2.2.1.1, y16.2.2.2.2.2.1.2.1, y16.2.2.2.2.2.1.2.2.1, y16.2.2.2.2.2.1.2.2.2.1, y16.2.2.2.2.2.1.2.2.2.2.1, y16.2.2.2.2.2.1.2.2.2.2.2.1, y16.2.2.2.2.2.1.2.2.2.2.2.2.1, y16.2.2.2.2.2.1.2.2.2.2.2.2.2), y16.2.2.2.2.2.2.1, y16.2.2.2.2.2.2.2.1, y16.2.2.2.2.2.2.2.2.1, y16.2.2.2.2.2.2.2.2.2.1, y16.2.2.2.2.2.2.2.2.2.2)) (fun y17 => cond ((!y13) || y17) (Option.map .inr (some false)) (some (.inl (IntKind.wrap .i64 (s10 + 1)))))))))) (Option.map .inr (some true))) 0))) 0)
theorem s_ENetOk_walk (w : World) (a0 : T_ENet) (h0 : GT.rd w [] a0) (r : Bool) (hp : s_ENetOk (GT.dat a0) = some r) : Spec Tryz.prog 18 [.agg (GT.cells a0).toArray].toArray w [] (IsV (.bool r)) := by
  obtain ⟨a0_1, a0_2⟩ := a0
  change Spec _ _ ([Value.agg #[(TL.hdr a0_1), (TL.hdr a0_2)]] : List Value).toArray w [] _
  refine Spec.intro Tryz.func18 rfl Tryz.ntmps18 rfl ?_
  unfold s_ENetOk at hp
  replace hp := dd hp
  refine s2 ?_
  refine bx fun bk1 => ?_
  refine s4 ?_
  refine W_D0 [14] mix (by kernel_rfl) rfl ?_
  refine s2 ?_
  refine D_lenP (X := a0_1) GC.none (OpV.t rfl) el28.h ?_
  refine s4 ?_
  refine D_lenP (X := a0_2) (GC.some rfl rfl) (OpV.s rfl) el29.h ?_
  refine s14 ?_
  refine kp [1, 14] ?_
  refine W_cond rfl (fun hc1 => ?_) (fun hc1 => ?_)
  · replace hp := cond_t hc1 hp
    refine s4 ?_
    obtain rfl := Option.some.inj hp
    refine s1 ?_
    refine res1 rfl (ResOK.tmp rfl) ⟨rfl, rfl⟩ ms
  · replace hp := cond_f hc1 hp
    refine s7 ?_
    refine W_while (σ := Int) GT.dat (fun (v2_0 : Int) => [(3, .int .i64 v2_0)]) (fun (v2_0 : Int) => []) [(1, _)] [blk bk1 _ _] 0 hp sb ms ?_
    clear hp
    rintro v2_0 x2 hp hx2
    replace hp := dd hp
    refine kq [1, 3] ?_
    refine s6 ?_
    refine kp [1, 3, 16] ?_
    refine W_cond rfl (fun hc3 => ?_) (fun hc3 => ?_)
    · replace hp := cond_t hc3 hp
      refine s4 ?_
      replace hp := idx_bind hp; obtain ⟨⟨u4_1, u4_2, u4_3, u4_4⟩, hy4, hp⟩ := hp
      replace hp := ba hp; obtain ⟨y5, hy5, hp⟩ := hp
      replace hp := idx_gb hp; obtain ⟨⟨u6_1, u6_2, u6_3, u6_4⟩, hy6, hp⟩ := hp
      refine W_D0 [35] mix (by kernel_rfl) rfl ?_
      refine s3 ?_
      refine D_idxA (X := a0_1) GC.none (OpV.t rfl) (OpV.t rfl) el28.h (RdT.old h0.1) (fun _ => hy4) ?_
      refine D_loadW GC.none (OpV.t rfl) (fun hg => RdT.at (RdT.old h0.1) (hy4).2) (by exact agg46.h) ?_
      refine D_callX GC.none fn32.h (OpVs.cons (OpV.t rfl) (OpVs.nil)) (by exact fun hg w F hF hM => s_ENodeOk_walk w (u4_1, u4_2, u4_3, u4_4) (RdT.nowS (RdT.pair RdT.int (RdT.pair RdT.int (RdT.pair (RdT.fst (RdT.snd (RdT.snd (RdT.of (RdT.old h0.1) (hy4).2)))) (RdT.snd (RdT.snd (RdT.snd (RdT.of (RdT.old h0.1) (hy4).2))))))) hF hM) _ hy5) ?_
      refine s5 ?_
      refine D_idxA (X := a0_1) (GC.some rfl rfl) (OpV.s rfl) (OpV.s rfl) el28.h (RdT.old h0.1) (fun hg => hy6 (gnot hg.2)) ?_
      refine s1 ?_
      refine D_load (GC.some rfl rfl) (OpV.s rfl) (fun hg => RdT.at (RdT.old h0.1) (hy6 (gnot hg.2)).2) one3.h rfl ?_
      refine s20 ?_
      refine s2 ?_
      refine kp [1, 3, 35] ?_
      refine W_cond rfl (fun hc7 => ?_) (fun hc7 => ?_)
      · replace hp := cond_t hc7 hp
        refine s4 ?_
        replace hp := map_any hp; obtain ⟨a8, hp, hx_a8⟩ := hp
        obtain rfl := hx2 _ hx_a8
        obtain rfl := Option.some.inj hp
        refine s1 ?_
        refine res1 rfl (ResOK.tmp rfl) ⟨rfl, rfl⟩ ms
      · replace hp := cond_f hc7 hp
        refine s6 ?_
        exact ⟨IntKind.wrap .i64 (v2_0 + 1), sb, (.sub ms), some_eq hp⟩
    · replace hp := cond_f hc3 hp
      refine W_exit ?_
      replace hp := map_any hp; obtain ⟨a9, hp, hx_a9⟩ := hp
      obtain rfl := hx2 _ hx_a9
      refine s6 ?_
      refine W_while (σ := Int) GT.dat (fun (v10_0 : Int) => [(4, .int .i64 v10_0)]) (fun (v10_0 : Int) => []) [(1, _)] [blk bk1 _ _] 0 hp sb ms ?_
      clear hp
      rintro v10_0 x10 hp hx10
      replace hp := dd hp
      refine kq [1, 4] ?_
      refine s9 ?_
      refine kp [1, 4, 40] ?_
      refine W_cond rfl (fun hc11 => ?_) (fun hc11 => ?_)
      · replace hp := cond_t hc11 hp
        refine s4 ?_
        replace hp := idx_bind hp; obtain ⟨⟨u12_1, u12_2, u12_3, ⟨u12_4, u12_5⟩, u12_6, ⟨u12_7, u12_8, u12_9, u12_10, u12_11, u12_12, u12_13, u12_14⟩, u12_15, u12_16, u12_17, u12_18, u12_19⟩, hy12, hp⟩ := hp
        replace hp := ba hp; obtain ⟨y13, hy13, hp⟩ := hp
        replace hp := gb_anyD hp; obtain ⟨y15, hy15, hny15, hp⟩ := hp
        replace hp := idx_gb hp; obtain ⟨⟨u16_1, u16_2, u16_3, ⟨u16_4, u16_5⟩, u16_6, ⟨u16_7, u16_8, u16_9, u16_10, u16_11, u16_12, u16_13, u16_14⟩, u16_15, u16_16, u16_17, u16_18, u16_19⟩, hy16, hp⟩ := hp
        replace hp := gb_any hp; obtain ⟨y17, hy17, hp⟩ := hp
        refine W_D0 [61] mix (by kernel_rfl) rfl ?_
        refine s3 ?_
        refine D_idxA (X := a0_2) GC.none (OpV.t rfl) (OpV.t rfl) el29.h (RdT.old h0.2) (fun _ => hy12) ?_
        refine D_loadW GC.none (OpV.t rfl) (fun hg => RdT.at (RdT.old h0.2) (hy12).2) (by exact agg74.h) ?_
        refine D_callX GC.none fn33.h (OpVs.cons (OpV.t rfl) (OpVs.nil)) (by exact fun hg w F hF hM => s_EMsgOk_walk w (u12_1, u12_2, u12_3, (u12_4, u12_5), u12_6, (u12_7, u12_8, u12_9, u12_10, u12_11, u12_12, u12_13, u12_14), u12_15, u12_16, u12_17, u12_18, u12_19) (RdT.nowS (RdT.pair RdT.int (RdT.pair RdT.int (RdT.pair RdT.int (RdT.pair (RdT.pair RdT.int RdT.int) (RdT.pair RdT.int (RdT.pair (RdT.pair RdT.int (RdT.pair RdT.int (RdT.pair RdT.int (RdT.pair RdT.str (RdT.pair RdT.str (RdT.pair RdT.str (RdT.pair RdT.int (RdT.snd (RdT.snd (RdT.snd (RdT.snd (RdT.snd (RdT.snd (RdT.snd (RdT.fst (RdT.snd (RdT.snd (RdT.snd (RdT.snd (RdT.snd (RdT.of (RdT.old h0.2) (hy12).2))))))))))))))))))))) (RdT.pair RdT.int (RdT.pair (RdT.fst (RdT.snd (RdT.snd (RdT.snd (RdT.snd (RdT.snd (RdT.snd (RdT.snd (RdT.of (RdT.old h0.2) (hy12).2))))))))) (RdT.pair RdT.int (RdT.pair RdT.int RdT.bool)))))))))) hF hM) _ hy13) ?_
        refine s5 ?_
        refine D_slcG (X := a0_2) (GC.some rfl rfl) (OpV.s rfl) optD.none (optD.some (OpV.s rfl)) el29.h rfl (RdT.old h0.2) (fun hg => hy15 (gnot hg.2)) (fun hn => hny15 (by simpa using hn)) (fun X14 hdX14 hRX14 => ?_)
        subst hdX14
        refine s3 ?_
        refine D_idxA (X := a0_2) (GC.some rfl rfl) (OpV.s rfl) (OpV.s rfl) el29.h (RdT.old h0.2) (fun hg => hy16 (gnot hg.2)) ?_
        refine D_loadW (GC.some rfl rfl) (OpV.s rfl) (fun hg => RdT.at (RdT.old h0.2) (hy16 (gnot hg.2)).2) (by exact agg74.h) ?_
        refine D_callX (GC.some rfl rfl) fn34.h (OpVs.cons (OpV.s rfl) (OpVs.cons (OpV.s rfl) (OpVs.nil))) (by exact fun hg w F hF hM => s_l11Has_walk w X14 (u16_1, u16_2, u16_3, (u16_4, u16_5), u16_6, (u16_7, u16_8, u16_9, u16_10, u16_11, u16_12, u16_13, u16_14), u16_15, u16_16, u16_17, u16_18, u16_19) (RdT.nowS (RdT.map hRX14 (RdT.old h0.2)) hF hM) (RdT.nowS (RdT.pair RdT.int (RdT.pair RdT.int (RdT.pair RdT.int (RdT.pair (RdT.pair RdT.int RdT.int) (RdT.pair RdT.int (RdT.pair (RdT.pair RdT.int (RdT.pair RdT.int (RdT.pair RdT.int (RdT.pair RdT.str (RdT.pair RdT.str (RdT.pair RdT.str (RdT.pair RdT.int (RdT.snd (RdT.snd (RdT.snd (RdT.snd (RdT.snd (RdT.snd (RdT.snd (RdT.fst (RdT.snd (RdT.snd (RdT.snd (RdT.snd (RdT.snd (RdT.of (RdT.old h0.2) (hy16 (gnot hg.2)).2))))))))))))))))))))) (RdT.pair RdT.int (RdT.pair (RdT.fst (RdT.snd (RdT.snd (RdT.snd (RdT.snd (RdT.snd (RdT.snd (RdT.snd (RdT.of (RdT.old h0.2) (hy16 (gnot hg.2)).2))))))))) (RdT.pair RdT.int (RdT.pair RdT.int RdT.bool)))))))))) hF hM) _ (hy17 (gnot hg.2))) ?_
        refine s20 ?_
        refine s2 ?_
        refine kp [1, 4, 61] ?_
        refine W_cond rfl (fun hc18 => ?_) (fun hc18 => ?_)
        · replace hp := cond_t hc18 hp
          refine s4 ?_
          replace hp := map_any hp; obtain ⟨a19, hp, hx_a19⟩ := hp
          obtain rfl := hx10 _ hx_a19
          obtain rfl := Option.some.inj hp
          refine s1 ?_
          refine res1 rfl (ResOK.tmp rfl) ⟨rfl, rfl⟩ ms
        · replace hp := cond_f hc18 hp
          refine s6 ?_
          exact ⟨IntKind.wrap .i64 (v10_0 + 1), sb, (.sub ms), some_eq hp⟩
      · replace hp := cond_f hc11 hp
        refine W_exit ?_
        replace hp := map_any hp; obtain ⟨a20, hp, hx_a20⟩ := hp
        obtain rfl := hx10 _ hx_a20
        refine s4 ?_
        obtain rfl := Option.some.inj hp
        refine s1 ?_
        refine res1 rfl (ResOK.tmp rfl) ⟨rfl, rfl⟩ ms
noncomputable def i_EMsgOk (a0 : D_EMsg) : Option Bool :=
  Option.bind (i_within a0.1 1 7) (fun y1 => gb y1 (i_isRep a0.2.1) (fun y2 => gb (y1 && y2) (i_isRep a0.2.2.1) (fun y3 => gb (((y1 && y2) && y3) && (!decide (a0.2.1 = a0.2.2.1))) (i_idOk (a0.2.2.2.1.1, a0.2.2.2.1.2)) (fun y4 => gb ((((y1 && y2) && y3) && (!decide (a0.2.1 = a0.2.2.1))) && y4) (i_within a0.2.2.2.2.1 0 600) (fun y5 => gb (((((y1 && y2) && y3) && (!decide (a0.2.1 = a0.2.2.1))) && y4) && y5) (i_CmdOk (a0.2.2.2.2.2.1.1, a0.2.2.2.2.2.1.2.1, a0.2.2.2.2.2.1.2.2.1, a0.2.2.2.2.2.1.2.2.2.1, a0.2.2.2.2.2.1.2.2.2.2.1, a0.2.2.2.2.2.1.2.2.2.2.2.1, a0.2.2.2.2.2.1.2.2.2.2.2.2.1, a0.2.2.2.2.2.1.2.2.2.2.2.2.2)) (fun y6 => gb ((((((y1 && y2) && y3) && (!decide (a0.2.1 = a0.2.2.1))) && y4) && y5) && y6) (i_within a0.2.2.2.2.2.2.1 0 60) (fun y7 => gb (((((((y1 && y2) && y3) && (!decide (a0.2.1 = a0.2.2.1))) && y4) && y5) && y6) && y7) (i_areDeps a0.2.2.2.2.2.2.2.1 (a0.2.2.2.1.1, a0.2.2.2.1.2)) (fun y8 => gb ((((((((y1 && y2) && y3) && (!decide (a0.2.1 = a0.2.2.1))) && y4) && y5) && y6) && y7) && y8) (i_within a0.2.2.2.2.2.2.2.2.1 0 3) (fun y9 => gb (((((((((y1 && y2) && y3) && (!decide (a0.2.1 = a0.2.2.1))) && y4) && y5) && y6) && y7) && y8) && y9) (i_within a0.2.2.2.2.2.2.2.2.2.1 (-1) 600) (fun y10 => some ((((((((((y1 && y2) && y3) && (!decide (a0.2.1 = a0.2.2.1))) && y4) && y5) && y6) && y7) && y8) && y9) && y10)))))))))))
theorem i_EMsgOk_walk (w : World) (a0 : T_EMsg) (h0 : GT.rd w [] a0) (r : Bool) (hp : i_EMsgOk (GT.dat a0) = some r) : Spec Tryz.prog 41 [.agg (GT.cells a0).toArray].toArray w [] (IsV (.bool r)) := by
  obtain ⟨a0_1, a0_2, a0_3, ⟨a0_4, a0_5⟩, a0_6, ⟨a0_7, a0_8, a0_9, a0_10, a0_11, a0_12, a0_13, a0_14⟩, a0_15, a0_16, a0_17, a0_18, a0_19⟩ := a0
  change Spec _ _ ([Value.agg #[.int .i64 a0_1, .int .i64 a0_2, .int .i64 a0_3, .int .i64 a0_4, .int .i64 a0_5, .int .i64 a0_6, .int .i64 a0_7, .int .i64 a0_8, .int .i64 a0_9, .string a0_10, .string a0_11, .string a0_12, .int .i64 a0_13, (TL.hdr a0_14), .int .i64 a0_15, (TL.hdr a0_16), .int .i64 a0_17, .int .i64 a0_18, .bool a0_19]] : List Value).toArray w [] _
  refine Spec.intro Tryz.func41 rfl Tryz.ntmps41 rfl ?_
  unfold i_EMsgOk at hp
  replace hp := dd hp
  refine s2 ?_
  refine bx fun bk1 => ?_
  refine s3 ?_
  replace hp := ba hp; obtain ⟨y1, hy1, hp⟩ := hp
  replace hp := gb_any hp; obtain ⟨y2, hy2, hp⟩ := hp
  replace hp := gb_any hp; obtain ⟨y3, hy3, hp⟩ := hp
  replace hp := gb_any hp; obtain ⟨y4, hy4, hp⟩ := hp
  replace hp := gb_any hp; obtain ⟨y5, hy5, hp⟩ := hp
  replace hp := gb_any hp; obtain ⟨y6, hy6, hp⟩ := hp
  replace hp := gb_any hp; obtain ⟨y7, hy7, hp⟩ := hp
  replace hp := gb_any hp; obtain ⟨y8, hy8, hp⟩ := hp
  replace hp := gb_any hp; obtain ⟨y9, hy9, hp⟩ := hp
  replace hp := gb_any hp; obtain ⟨y10, hy10, hp⟩ := hp
  refine W_D0 [2] mix (by kernel_rfl) rfl ?_
  refine s2 ?_
  refine D_callX GC.none fn76.h (OpVs.cons (OpV.t rfl) (OpVs.cons OpV.c (OpVs.cons OpV.c (OpVs.nil)))) (by exact fun hg w F hF hM => i_within_walk w a0_1 1 7  _ hy1) ?_
  refine s3 ?_
  refine D_callX (GC.some rfl rfl) fn75.h (OpVs.cons (OpV.s rfl) (OpVs.nil)) (by exact fun hg w F hF hM => i_isRep_walk w a0_2  _ (hy2 hg.2)) ?_
  refine s4 ?_
  refine D_callX (GC.some rfl rfl) fn75.h (OpVs.cons (OpV.s rfl) (OpVs.nil)) (by exact fun hg w F hF hM => i_isRep_walk w a0_3  _ (hy3 hg.2)) ?_
  refine s10 ?_
  refine D_loadW (GC.some rfl rfl) (OpV.s rfl) (fun hg => RdC.seg (RdC.blk mm) 3 2 rfl) (by exact agg71.h) ?_
  refine D_callX (GC.some rfl rfl) fn81.h (OpVs.cons (OpV.s rfl) (OpVs.nil)) (by exact fun hg w F hF hM => i_idOk_walk w (a0_4, a0_5) (RdT.nowS (RdT.pair RdT.int RdT.int) hF hM) _ (hy4 hg.2)) ?_
  refine s4 ?_
  refine D_callX (GC.some rfl rfl) fn76.h (OpVs.cons (OpV.s rfl) (OpVs.cons OpV.c (OpVs.cons OpV.c (OpVs.nil)))) (by exact fun hg w F hF hM => i_within_walk w a0_6 0 600  _ (hy5 hg.2)) ?_
  refine s3 ?_
  refine D_loadW (GC.some rfl rfl) (OpV.s rfl) (fun hg => RdC.seg (RdC.blk mm) 6 8 rfl) (by exact agg72.h) ?_
  refine D_callX (GC.some rfl rfl) fn82.h (OpVs.cons (OpV.s rfl) (OpVs.nil)) (by exact fun hg w F hF hM => i_CmdOk_walk w (a0_7, a0_8, a0_9, a0_10, a0_11, a0_12, a0_13, a0_14) (RdT.nowS (RdT.pair RdT.int (RdT.pair RdT.int (RdT.pair RdT.int (RdT.pair RdT.str (RdT.pair RdT.str (RdT.pair RdT.str (RdT.pair RdT.int (RdT.old h0.2.2.2.2.2.1.2.2.2.2.2.2.2)))))))) hF hM) _ (hy6 hg.2)) ?_
  refine s4 ?_
  refine D_callX (GC.some rfl rfl) fn76.h (OpVs.cons (OpV.s rfl) (OpVs.cons OpV.c (OpVs.cons OpV.c (OpVs.nil)))) (by exact fun hg w F hF hM => i_within_walk w a0_15 0 60  _ (hy7 hg.2)) ?_
  refine s5 ?_
  refine D_loadW (GC.some rfl rfl) (OpV.s rfl) (fun hg => RdC.seg (RdC.blk mm) 3 2 rfl) (by exact agg71.h) ?_
  refine D_callX (GC.some rfl rfl) fn83.h (OpVs.cons (OpV.s rfl) (OpVs.cons (OpV.s rfl) (OpVs.nil))) (by exact fun hg w F hF hM => i_areDeps_walk w a0_16 (a0_4, a0_5) (RdT.nowS (RdT.old h0.2.2.2.2.2.2.2.1) hF hM) (RdT.nowS (RdT.pair RdT.int RdT.int) hF hM) _ (hy8 hg.2)) ?_
  refine s4 ?_
  refine D_callX (GC.some rfl rfl) fn76.h (OpVs.cons (OpV.s rfl) (OpVs.cons OpV.c (OpVs.cons OpV.c (OpVs.nil)))) (by exact fun hg w F hF hM => i_within_walk w a0_17 0 3  _ (hy9 hg.2)) ?_
  refine s4 ?_
  refine D_callX (GC.some rfl rfl) fn76.h (OpVs.cons (OpV.s rfl) (OpVs.cons OpV.c (OpVs.cons OpV.c (OpVs.nil)))) (by exact fun hg w F hF hM => i_within_walk w a0_18 (-1) 600  _ (hy10 hg.2)) ?_
  refine s20 ?_
  refine s20 ?_
  refine s20 ?_
  refine s2 ?_
  obtain rfl := Option.some.inj hp
  refine s1 ?_
  refine res1 rfl (ResOK.tmp rfl) ⟨rfl, rfl⟩ ms
noncomputable def sl_Equal_implIdimplId (a0 : List D_Id) (a1 : List D_Id) : Option Bool :=
  cond (!decide ((a0.length : Int) = (a1.length : Int))) (some false) (whileP (fun s2 : Int => cond (decide (s2 < (a0.length : Int))) (Option.bind (idx a0 s2) (fun y4 => Option.bind (idx a1 s2) (fun y5 => cond (!(decide (y4.1 = y5.1) && (decide (y4.2 = y5.2) && true))) (Option.map .inr (some false)) (some (.inl (IntKind.wrap .i64 (s2 + 1))))))) (Option.map .inr (some true))) 0)
theorem sl_Equal_implIdimplId_walk (w : World) (a0 : TL T_Id) (a1 : TL T_Id) (h0 : GT.rd w [] a0) (h1 : GT.rd w [] a1) (r : Bool) (hp : sl_Equal_implIdimplId (GT.dat a0) (GT.dat a1) = some r) : Spec Tryz.prog 127 [(TL.hdr a0), (TL.hdr a1)].toArray w [] (IsV (.bool r)) := by
  refine Spec.intro Tryz.func127 rfl Tryz.ntmps127 rfl ?_
  unfold sl_Equal_implIdimplId at hp
  replace hp := dd hp
  refine s13 ?_
  refine kp [0, 1, 10] ?_
  refine W_cond rfl (fun hc1 => ?_) (fun hc1 => ?_)
  · replace hp := cond_t hc1 hp
    refine s4 ?_
    obtain rfl := Option.some.inj hp
    refine s1 ?_
    refine res1 rfl (ResOK.tmp rfl) ⟨rfl, rfl⟩ ms
  · replace hp := cond_f hc1 hp
    refine s9 ?_
    refine W_while (σ := Int) GT.dat (fun (v2_0 : Int) => [(13, .int .i64 v2_0)]) (fun (v2_0 : Int) => []) [(0, _), (1, _), (12, _)] [] 0 hp sb ms ?_
    clear hp
    rintro v2_0 x2 hp hx2
    replace hp := dd hp
    refine kq [0, 1, 12, 13] ?_
    refine s5 ?_
    refine kp [0, 1, 12, 13, 14] ?_
    refine W_cond rfl (fun hc3 => ?_) (fun hc3 => ?_)
    · replace hp := cond_t hc3 hp
      refine s9 ?_
      replace hp := idx_bind hp; obtain ⟨⟨u4_1, u4_2⟩, hy4, hp⟩ := hp
      replace hp := idx_bind hp; obtain ⟨⟨u5_1, u5_2⟩, hy5, hp⟩ := hp
      refine W_D0 [24] mix (by kernel_rfl) rfl ?_
      refine s2 ?_
      refine D_idxA (X := a0) GC.none (OpV.t rfl) (OpV.t rfl) el51.h (RdT.old h0) (fun _ => hy4) ?_
      refine D_loadW GC.none (OpV.t rfl) (fun hg => RdT.at (RdT.old h0) (hy4).2) (by exact agg71.h) ?_
      refine s2 ?_
      refine D_idxA (X := a1) GC.none (OpV.t rfl) (OpV.t rfl) el51.h (RdT.old h1) (fun _ => hy5) ?_
      refine D_loadW GC.none (OpV.t rfl) (fun hg => RdT.at (RdT.old h1) (hy5).2) (by exact agg71.h) ?_
      refine D_bin GC.none (OpV.t rfl) (OpV.t rfl) (fun hg => (bv_aneq eqsh71 (EqS.consI one3.h und3.h rfl rfl (EqS.consI one3.h und3.h rfl rfl EqS.nil)))) ?_
      refine s11 ?_
      refine kp [0, 1, 12, 13, 24] ?_
      refine W_cond rfl (fun hc6 => ?_) (fun hc6 => ?_)
      · replace hp := cond_t hc6 hp
        refine s4 ?_
        replace hp := map_any hp; obtain ⟨a7, hp, hx_a7⟩ := hp
        obtain rfl := hx2 _ hx_a7
        obtain rfl := Option.some.inj hp
        refine s1 ?_
        refine res1 rfl (ResOK.tmp rfl) ⟨rfl, rfl⟩ ms
      · replace hp := cond_f hc6 hp
        refine s5 ?_
        exact ⟨IntKind.wrap .i64 (v2_0 + 1), sb, (.sub ms), some_eq hp⟩
    · replace hp := cond_f hc3 hp
      refine W_exit ?_
      replace hp := map_any hp; obtain ⟨a8, hp, hx_a8⟩ := hp
      obtain rfl := hx2 _ hx_a8
      refine s4 ?_
      obtain rfl := Option.some.inj hp
      refine s1 ?_
      refine res1 rfl (ResOK.tmp rfl) ⟨rfl, rfl⟩ ms
noncomputable def i_SameMsg (a0 : D_EMsg) (a1 : D_EMsg) : Option Bool :=
  gb (((((decide (a0.1 = a1.1)) && (decide (a0.2.1 = a1.2.1))) && (decide (a0.2.2.1 = a1.2.2.1))) && (decide (a0.2.2.2.1.1 = a1.2.2.2.1.1) && (decide (a0.2.2.2.1.2 = a1.2.2.2.1.2) && true))) && (decide (a0.2.2.2.2.1 = a1.2.2.2.2.1))) (i_SameCmd (a0.2.2.2.2.2.1.1, a0.2.2.2.2.2.1.2.1, a0.2.2.2.2.2.1.2.2.1, a0.2.2.2.2.2.1.2.2.2.1, a0.2.2.2.2.2.1.2.2.2.2.1, a0.2.2.2.2.2.1.2.2.2.2.2.1, a0.2.2.2.2.2.1.2.2.2.2.2.2.1, a0.2.2.2.2.2.1.2.2.2.2.2.2.2) (a1.2.2.2.2.2.1.1, a1.2.2.2.2.2.1.2.1, a1.2.2.2.2.2.1.2.2.1, a1.2.2.2.2.2.1.2.2.2.1, a1.2.2.2.2.2.1.2.2.2.2.1, a1.2.2.2.2.2.1.2.2.2.2.2.1, a1.2.2.2.2.2.1.2.2.2.2.2.2.1, a1.2.2.2.2.2.1.2.2.2.2.2.2.2)) (fun y1 => gb (((((((decide (a0.1 = a1.1)) && (decide (a0.2.1 = a1.2.1))) && (decide (a0.2.2.1 = a1.2.2.1))) && (decide (a0.2.2.2.1.1 = a1.2.2.2.1.1) && (decide (a0.2.2.2.1.2 = a1.2.2.2.1.2) && true))) && (decide (a0.2.2.2.2.1 = a1.2.2.2.2.1))) && y1) && (decide (a0.2.2.2.2.2.2.1 = a1.2.2.2.2.2.2.1))) (sl_Equal_implIdimplId a0.2.2.2.2.2.2.2.1 a1.2.2.2.2.2.2.2.1) (fun y2 => some (((((((((((decide (a0.1 = a1.1)) && (decide (a0.2.1 = a1.2.1))) && (decide (a0.2.2.1 = a1.2.2.1))) && (decide (a0.2.2.2.1.1 = a1.2.2.2.1.1) && (decide (a0.2.2.2.1.2 = a1.2.2.2.1.2) && true))) && (decide (a0.2.2.2.2.1 = a1.2.2.2.2.1))) && y1) && (decide (a0.2.2.2.2.2.2.1 = a1.2.2.2.2.2.2.1))) && y2) && (decide (a0.2.2.2.2.2.2.2.2.1 = a1.2.2.2.2.2.2.2.2.1))) && (decide (a0.2.2.2.2.2.2.2.2.2.1 = a1.2.2.2.2.2.2.2.2.2.1))) && (a0.2.2.2.2.2.2.2.2.2.2 == a1.2.2.2.2.2.2.2.2.2.2))))
theorem i_SameMsg_walk (w : World) (a0 : T_EMsg) (a1 : T_EMsg) (h0 : GT.rd w [] a0) (h1 : GT.rd w [] a1) (r : Bool) (hp : i_SameMsg (GT.dat a0) (GT.dat a1) = some r) : Spec Tryz.prog 86 [.agg (GT.cells a0).toArray, .agg (GT.cells a1).toArray].toArray w [] (IsV (.bool r)) := by
  obtain ⟨a0_1, a0_2, a0_3, ⟨a0_4, a0_5⟩, a0_6, ⟨a0_7, a0_8, a0_9, a0_10, a0_11, a0_12, a0_13, a0_14⟩, a0_15, a0_16, a0_17, a0_18, a0_19⟩ := a0
  obtain ⟨a1_1, a1_2, a1_3, ⟨a1_4, a1_5⟩, a1_6, ⟨a1_7, a1_8, a1_9, a1_10, a1_11, a1_12, a1_13, a1_14⟩, a1_15, a1_16, a1_17, a1_18, a1_19⟩ := a1
  change Spec _ _ ([Value.agg #[.int .i64 a0_1, .int .i64 a0_2, .int .i64 a0_3, .int .i64 a0_4, .int .i64 a0_5, .int .i64 a0_6, .int .i64 a0_7, .int .i64 a0_8, .int .i64 a0_9, .string a0_10, .string a0_11, .string a0_12, .int .i64 a0_13, (TL.hdr a0_14), .int .i64 a0_15, (TL.hdr a0_16), .int .i64 a0_17, .int .i64 a0_18, .bool a0_19], Value.agg #[.int .i64 a1_1, .int .i64 a1_2, .int .i64 a1_3, .int .i64 a1_4, .int .i64 a1_5, .int .i64 a1_6, .int .i64 a1_7, .int .i64 a1_8, .int .i64 a1_9, .string a1_10, .string a1_11, .string a1_12, .int .i64 a1_13, (TL.hdr a1_14), .int .i64 a1_15, (TL.hdr a1_16), .int .i64 a1_17, .int .i64 a1_18, .bool a1_19]] : List Value).toArray w [] _
  refine Spec.intro Tryz.func86 rfl Tryz.ntmps86 rfl ?_
  unfold i_SameMsg at hp
  try dsimp only [dat_pair, dat_int, dat_bool, dat_str, dat_ar] at hp
  refine W_seq ?_
  refine W_region ?_
  refine L_box rfl rfl (fun bk2 => ?_)
  refine L_box rfl rfl (fun bk3 => ?_)
  refine L_assign rfl rfl ?_
  refine L_nil ?_
  refine W_seq ?_
  have ho := hp; clear hp; obtain ⟨y1, hy1, hp⟩ := gb_any ho; clear ho
  have ho := hp; clear hp; obtain ⟨y2, hy2, hp⟩ := gb_any ho; clear ho
  refine W_D0 [4] mix (by kernel_rfl) rfl ?_
  refine D_fieldAddr GC.none (OpV.t rfl) fld74_0.h ?_
  refine D_load GC.none (OpV.t rfl) (fun hg => RdC.blk (by first | (with_reducible repeat (first | exact List.Mem.head _ | apply List.Mem.tail)); done | (repeat (first | exact List.Mem.head _ | apply List.Mem.tail)))) one3.h rfl ?_
  refine D_fieldAddr GC.none (OpV.t rfl) fld74_0.h ?_
  refine D_load GC.none (OpV.t rfl) (fun hg => RdC.blk (by first | (with_reducible repeat (first | exact List.Mem.head _ | apply List.Mem.tail)); done | (repeat (first | exact List.Mem.head _ | apply List.Mem.tail)))) one3.h rfl ?_
  refine D_bin GC.none (OpV.t rfl) (OpV.t rfl) (fun hg => bv_eql) ?_
  refine D_move GC.none (OpV.t rfl) ?_
  refine D_fieldAddr (GC.some rfl rfl) (OpV.t rfl) fld74_1.h ?_
  refine D_load (GC.some rfl rfl) (OpV.s rfl) (fun hg => RdC.blk (by first | (with_reducible repeat (first | exact List.Mem.head _ | apply List.Mem.tail)); done | (repeat (first | exact List.Mem.head _ | apply List.Mem.tail)))) one3.h rfl ?_
  refine D_fieldAddr (GC.some rfl rfl) (OpV.t rfl) fld74_1.h ?_
  refine D_load (GC.some rfl rfl) (OpV.s rfl) (fun hg => RdC.blk (by first | (with_reducible repeat (first | exact List.Mem.head _ | apply List.Mem.tail)); done | (repeat (first | exact List.Mem.head _ | apply List.Mem.tail)))) one3.h rfl ?_
  refine D_bin (GC.some rfl rfl) (OpV.s rfl) (OpV.s rfl) (fun hg => bv_eql) ?_
  refine D_and (cy := _) GC.none (OpV.t rfl) (OpV.s rfl) (fun h hb => ⟨h, hb⟩) ?_
  refine D_move GC.none (OpV.t rfl) ?_
  refine D_fieldAddr (GC.some rfl rfl) (OpV.t rfl) fld74_2.h ?_
  refine D_load (GC.some rfl rfl) (OpV.s rfl) (fun hg => RdC.blk (by first | (with_reducible repeat (first | exact List.Mem.head _ | apply List.Mem.tail)); done | (repeat (first | exact List.Mem.head _ | apply List.Mem.tail)))) one3.h rfl ?_
  refine D_fieldAddr (GC.some rfl rfl) (OpV.t rfl) fld74_2.h ?_
  refine D_load (GC.some rfl rfl) (OpV.s rfl) (fun hg => RdC.blk (by first | (with_reducible repeat (first | exact List.Mem.head _ | apply List.Mem.tail)); done | (repeat (first | exact List.Mem.head _ | apply List.Mem.tail)))) one3.h rfl ?_
  refine D_bin (GC.some rfl rfl) (OpV.s rfl) (OpV.s rfl) (fun hg => bv_eql) ?_
  refine D_and (cy := _) GC.none (OpV.t rfl) (OpV.s rfl) (fun h hb => ⟨h, hb⟩) ?_
  refine D_move GC.none (OpV.t rfl) ?_
  refine D_fieldAddr (GC.some rfl rfl) (OpV.t rfl) fld74_3.h ?_
  refine D_loadW (GC.some rfl rfl) (OpV.s rfl) (fun hg => RdC.seg (RdC.blk (by first | (with_reducible repeat (first | exact List.Mem.head _ | apply List.Mem.tail)); done | (repeat (first | exact List.Mem.head _ | apply List.Mem.tail)))) 3 2 rfl) (by exact agg71.h) ?_
  refine D_fieldAddr (GC.some rfl rfl) (OpV.t rfl) fld74_3.h ?_
  refine D_loadW (GC.some rfl rfl) (OpV.s rfl) (fun hg => RdC.seg (RdC.blk (by first | (with_reducible repeat (first | exact List.Mem.head _ | apply List.Mem.tail)); done | (repeat (first | exact List.Mem.head _ | apply List.Mem.tail)))) 3 2 rfl) (by exact agg71.h) ?_
  refine D_bin (GC.some rfl rfl) (OpV.s rfl) (OpV.s rfl) (fun hg => (bv_aeql eqsh71 (EqS.consI one3.h und3.h rfl rfl (EqS.consI one3.h und3.h rfl rfl EqS.nil)))) ?_
  refine D_and (cy := _) GC.none (OpV.t rfl) (OpV.s rfl) (fun h hb => ⟨h, hb⟩) ?_
  refine D_move GC.none (OpV.t rfl) ?_
  refine D_fieldAddr (GC.some rfl rfl) (OpV.t rfl) fld74_4.h ?_
  refine D_load (GC.some rfl rfl) (OpV.s rfl) (fun hg => RdC.blk (by first | (with_reducible repeat (first | exact List.Mem.head _ | apply List.Mem.tail)); done | (repeat (first | exact List.Mem.head _ | apply List.Mem.tail)))) one3.h rfl ?_
  refine D_fieldAddr (GC.some rfl rfl) (OpV.t rfl) fld74_4.h ?_
  refine D_load (GC.some rfl rfl) (OpV.s rfl) (fun hg => RdC.blk (by first | (with_reducible repeat (first | exact List.Mem.head _ | apply List.Mem.tail)); done | (repeat (first | exact List.Mem.head _ | apply List.Mem.tail)))) one3.h rfl ?_
  refine D_bin (GC.some rfl rfl) (OpV.s rfl) (OpV.s rfl) (fun hg => bv_eql) ?_
  refine D_and (cy := _) GC.none (OpV.t rfl) (OpV.s rfl) (fun h hb => ⟨h, hb⟩) ?_
  refine D_move GC.none (OpV.t rfl) ?_
  refine D_fieldAddr (GC.some rfl rfl) (OpV.t rfl) fld74_5.h ?_
  refine D_loadW (GC.some rfl rfl) (OpV.s rfl) (fun hg => RdC.seg (RdC.blk (by first | (with_reducible repeat (first | exact List.Mem.head _ | apply List.Mem.tail)); done | (repeat (first | exact List.Mem.head _ | apply List.Mem.tail)))) 6 8 rfl) (by exact agg72.h) ?_
  refine D_fieldAddr (GC.some rfl rfl) (OpV.t rfl) fld74_5.h ?_
  refine D_loadW (GC.some rfl rfl) (OpV.s rfl) (fun hg => RdC.seg (RdC.blk (by first | (with_reducible repeat (first | exact List.Mem.head _ | apply List.Mem.tail)); done | (repeat (first | exact List.Mem.head _ | apply List.Mem.tail)))) 6 8 rfl) (by exact agg72.h) ?_
  refine D_callX (GC.some rfl rfl) fn122.h (OpVs.cons (OpV.s rfl) (OpVs.cons (OpV.s rfl) (OpVs.nil))) (by exact fun hg w F hF hM => i_SameCmd_walk w (a0_7, a0_8, a0_9, a0_10, a0_11, a0_12, a0_13, a0_14) (a1_7, a1_8, a1_9, a1_10, a1_11, a1_12, a1_13, a1_14) (RdT.nowS (RdT.pair RdT.int (RdT.pair RdT.int (RdT.pair RdT.int (RdT.pair RdT.str (RdT.pair RdT.str (RdT.pair RdT.str (RdT.pair RdT.int (RdT.old h0.2.2.2.2.2.1.2.2.2.2.2.2.2)))))))) hF hM) (RdT.nowS (RdT.pair RdT.int (RdT.pair RdT.int (RdT.pair RdT.int (RdT.pair RdT.str (RdT.pair RdT.str (RdT.pair RdT.str (RdT.pair RdT.int (RdT.old h1.2.2.2.2.2.1.2.2.2.2.2.2.2)))))))) hF hM) _ (hy1 hg.2)) ?_
  refine D_and (cy := _) GC.none (OpV.t rfl) (OpV.s rfl) (fun h hb => ⟨h, hb⟩) ?_
  refine D_move GC.none (OpV.t rfl) ?_
  refine D_fieldAddr (GC.some rfl rfl) (OpV.t rfl) fld74_6.h ?_
  refine D_load (GC.some rfl rfl) (OpV.s rfl) (fun hg => RdC.blk (by first | (with_reducible repeat (first | exact List.Mem.head _ | apply List.Mem.tail)); done | (repeat (first | exact List.Mem.head _ | apply List.Mem.tail)))) one3.h rfl ?_
  refine D_fieldAddr (GC.some rfl rfl) (OpV.t rfl) fld74_6.h ?_
  refine D_load (GC.some rfl rfl) (OpV.s rfl) (fun hg => RdC.blk (by first | (with_reducible repeat (first | exact List.Mem.head _ | apply List.Mem.tail)); done | (repeat (first | exact List.Mem.head _ | apply List.Mem.tail)))) one3.h rfl ?_
  refine D_bin (GC.some rfl rfl) (OpV.s rfl) (OpV.s rfl) (fun hg => bv_eql) ?_
  refine D_and (cy := _) GC.none (OpV.t rfl) (OpV.s rfl) (fun h hb => ⟨h, hb⟩) ?_
  refine D_move GC.none (OpV.t rfl) ?_
  refine D_fieldAddr (GC.some rfl rfl) (OpV.t rfl) fld74_7.h ?_
  refine D_load (GC.some rfl rfl) (OpV.s rfl) (fun hg => RdC.blk (by first | (with_reducible repeat (first | exact List.Mem.head _ | apply List.Mem.tail)); done | (repeat (first | exact List.Mem.head _ | apply List.Mem.tail)))) one51.h rfl ?_
  refine D_fieldAddr (GC.some rfl rfl) (OpV.t rfl) fld74_7.h ?_
  refine D_load (GC.some rfl rfl) (OpV.s rfl) (fun hg => RdC.blk (by first | (with_reducible repeat (first | exact List.Mem.head _ | apply List.Mem.tail)); done | (repeat (first | exact List.Mem.head _ | apply List.Mem.tail)))) one51.h rfl ?_
  refine D_callX (GC.some rfl rfl) fn127.h (OpVs.cons (OpV.s rfl) (OpVs.cons (OpV.s rfl) (OpVs.nil))) (by exact fun hg w F hF hM => sl_Equal_implIdimplId_walk w a0_16 a1_16 (RdT.nowS (RdT.old h0.2.2.2.2.2.2.2.1) hF hM) (RdT.nowS (RdT.old h1.2.2.2.2.2.2.2.1) hF hM) _ (hy2 hg.2)) ?_
  refine D_and (cy := _) GC.none (OpV.t rfl) (OpV.s rfl) (fun h hb => ⟨h, hb⟩) ?_
  refine D_move GC.none (OpV.t rfl) ?_
  refine D_fieldAddr (GC.some rfl rfl) (OpV.t rfl) fld74_8.h ?_
  refine D_load (GC.some rfl rfl) (OpV.s rfl) (fun hg => RdC.blk (by first | (with_reducible repeat (first | exact List.Mem.head _ | apply List.Mem.tail)); done | (repeat (first | exact List.Mem.head _ | apply List.Mem.tail)))) one3.h rfl ?_
  refine D_fieldAddr (GC.some rfl rfl) (OpV.t rfl) fld74_8.h ?_
  refine D_load (GC.some rfl rfl) (OpV.s rfl) (fun hg => RdC.blk (by first | (with_reducible repeat (first | exact List.Mem.head _ | apply List.Mem.tail)); done | (repeat (first | exact List.Mem.head _ | apply List.Mem.tail)))) one3.h rfl ?_
  refine D_bin (GC.some rfl rfl) (OpV.s rfl) (OpV.s rfl) (fun hg => bv_eql) ?_
  refine D_and (cy := _) GC.none (OpV.t rfl) (OpV.s rfl) (fun h hb => ⟨h, hb⟩) ?_
  refine D_move GC.none (OpV.t rfl) ?_
  refine D_fieldAddr (GC.some rfl rfl) (OpV.t rfl) fld74_9.h ?_
  refine D_load (GC.some rfl rfl) (OpV.s rfl) (fun hg => RdC.blk (by first | (with_reducible repeat (first | exact List.Mem.head _ | apply List.Mem.tail)); done | (repeat (first | exact List.Mem.head _ | apply List.Mem.tail)))) one3.h rfl ?_
  refine D_fieldAddr (GC.some rfl rfl) (OpV.t rfl) fld74_9.h ?_
  refine D_load (GC.some rfl rfl) (OpV.s rfl) (fun hg => RdC.blk (by first | (with_reducible repeat (first | exact List.Mem.head _ | apply List.Mem.tail)); done | (repeat (first | exact List.Mem.head _ | apply List.Mem.tail)))) one3.h rfl ?_
  refine D_bin (GC.some rfl rfl) (OpV.s rfl) (OpV.s rfl) (fun hg => bv_eql) ?_
  refine D_and (cy := _) GC.none (OpV.t rfl) (OpV.s rfl) (fun h hb => ⟨h, hb⟩) ?_
  refine D_move GC.none (OpV.t rfl) ?_
  refine D_fieldAddr (GC.some rfl rfl) (OpV.t rfl) fld74_10.h ?_
  refine D_load (GC.some rfl rfl) (OpV.s rfl) (fun hg => RdC.blk (by first | (with_reducible repeat (first | exact List.Mem.head _ | apply List.Mem.tail)); done | (repeat (first | exact List.Mem.head _ | apply List.Mem.tail)))) one4.h rfl ?_
  refine D_fieldAddr (GC.some rfl rfl) (OpV.t rfl) fld74_10.h ?_
  refine D_load (GC.some rfl rfl) (OpV.s rfl) (fun hg => RdC.blk (by first | (with_reducible repeat (first | exact List.Mem.head _ | apply List.Mem.tail)); done | (repeat (first | exact List.Mem.head _ | apply List.Mem.tail)))) one4.h rfl ?_
  refine D_bin (GC.some rfl rfl) (OpV.s rfl) (OpV.s rfl) (fun hg => (bv_beql und4.h)) ?_
  refine D_and (cy := _) GC.none (OpV.t rfl) (OpV.s rfl) (fun h hb => ⟨h, hb⟩) ?_
  refine D_assign GC.none (OpV.t rfl) ?_
  refine DV_nil ?_
  refine Give_is rfl rfl ?_
  refine Give_drop rfl ?_
  refine Give_drop rfl ?_
  refine Give_drop rfl ?_
  refine Give_drop rfl ?_
  refine Give_drop rfl ?_
  refine Give_drop rfl ?_
  refine Give_drop rfl ?_
  refine Give_drop rfl ?_
  refine Give_drop rfl ?_
  refine Give_drop rfl ?_
  refine Give_drop rfl ?_
  refine Give_drop rfl ?_
  refine Give_drop rfl ?_
  refine Give_drop rfl ?_
  refine Give_drop rfl ?_
  refine Give_drop rfl ?_
  refine Give_drop rfl ?_
  refine Give_drop rfl ?_
  refine Give_drop rfl ?_
  refine Give_drop rfl ?_
  refine Give_drop rfl ?_
  refine Give_drop rfl ?_
  refine Give_drop rfl ?_
  refine Give_drop rfl ?_
  refine Give_drop rfl ?_
  refine Give_drop rfl ?_
  refine Give_drop rfl ?_
  refine Give_drop rfl ?_
  refine Give_drop rfl ?_
  refine Give_drop rfl ?_
  refine Give_drop rfl ?_
  refine Give_drop rfl ?_
  refine Give_drop rfl ?_
  refine Give_drop rfl ?_
  refine Give_drop rfl ?_
  refine Give_drop rfl ?_
  refine Give_drop rfl ?_
  refine Give_drop rfl ?_
  refine Give_drop rfl ?_
  refine Give_drop rfl ?_
  refine Give_drop rfl ?_
  refine Give_drop rfl ?_
  refine Give_drop rfl ?_
  refine Give_drop rfl ?_
  refine Give_drop rfl ?_
  refine Give_drop rfl ?_
  refine Give_drop rfl ?_
  refine Give_drop rfl ?_
  refine Give_drop rfl ?_
  refine Give_drop rfl ?_
  refine Give_drop rfl ?_
  refine Give_drop rfl ?_
  refine Give_drop rfl ?_
  refine Give_drop rfl ?_
  refine Give_drop rfl ?_
  refine Give_drop rfl ?_
  refine Give_drop rfl ?_
  refine Give_drop rfl ?_
  refine Give_drop rfl ?_
  refine Give_drop rfl ?_
  refine Give_drop rfl ?_
  refine Give_drop rfl ?_
  refine Give_drop rfl ?_
  refine Give_drop rfl ?_
  refine Give_drop rfl ?_
  refine Give_drop rfl ?_
  refine Give_drop rfl ?_
  refine Give_drop rfl ?_
  refine Give_drop rfl ?_
  refine Give_drop rfl ?_
  refine Give_drop rfl ?_
  refine Give_drop rfl ?_
  refine Give_drop rfl ?_
  refine Give_drop rfl ?_
  refine Give_drop rfl ?_
  refine Give_nil ?_
  obtain rfl := Option.some.inj hp
  refine W_ret ?_
  refine res1 rfl (ResOK.tmp rfl) ⟨rfl, rfl⟩ (MSub.nil _)
noncomputable def i_hasMsg_c1 (a0 : D_EMsg) (c0 : D_EMsg) : Option Bool :=
  Option.bind (i_SameMsg (a0.1, a0.2.1, a0.2.2.1, (a0.2.2.2.1.1, a0.2.2.2.1.2), a0.2.2.2.2.1, (a0.2.2.2.2.2.1.1, a0.2.2.2.2.2.1.2.1, a0.2.2.2.2.2.1.2.2.1, a0.2.2.2.2.2.1.2.2.2.1, a0.2.2.2.2.2.1.2.2.2.2.1, a0.2.2.2.2.2.1.2.2.2.2.2.1, a0.2.2.2.2.2.1.2.2.2.2.2.2.1, a0.2.2.2.2.2.1.2.2.2.2.2.2.2), a0.2.2.2.2.2.2.1, a0.2.2.2.2.2.2.2.1, a0.2.2.2.2.2.2.2.2.1, a0.2.2.2.2.2.2.2.2.2.1, a0.2.2.2.2.2.2.2.2.2.2) (c0.1, c0.2.1, c0.2.2.1, (c0.2.2.2.1.1, c0.2.2.2.1.2), c0.2.2.2.2.1, (c0.2.2.2.2.2.1.1, c0.2.2.2.2.2.1.2.1, c0.2.2.2.2.2.1.2.2.1, c0.2.2.2.2.2.1.2.2.2.1, c0.2.2.2.2.2.1.2.2.2.2.1, c0.2.2.2.2.2.1.2.2.2.2.2.1, c0.2.2.2.2.2.1.2.2.2.2.2.2.1, c0.2.2.2.2.2.1.2.2.2.2.2.2.2), c0.2.2.2.2.2.2.1, c0.2.2.2.2.2.2.2.1, c0.2.2.2.2.2.2.2.2.1, c0.2.2.2.2.2.2.2.2.2.1, c0.2.2.2.2.2.2.2.2.2.2)) (fun y1 => some y1)
theorem i_hasMsg_c1_walk (w : World) (a0 : T_EMsg) (b0 : Nat) (c0 : T_EMsg) (h0 : GT.rd w [] a0) (hb0 : Cells w [] b0 0 (GT.cells c0)) (hc0 : GT.rd w [] c0) (r : Bool) (hp : i_hasMsg_c1 (GT.dat a0) (GT.dat c0) = some r) : Spec Tryz.prog 85 ([(.agg (GT.cells a0).toArray : Value)] ++ [Value.pointer (some ⟨b0, 0, none⟩)]).toArray w [] (IsV (.bool r)) := by
  obtain ⟨a0_1, a0_2, a0_3, ⟨a0_4, a0_5⟩, a0_6, ⟨a0_7, a0_8, a0_9, a0_10, a0_11, a0_12, a0_13, a0_14⟩, a0_15, a0_16, a0_17, a0_18, a0_19⟩ := a0
  obtain ⟨c0_1, c0_2, c0_3, ⟨c0_4, c0_5⟩, c0_6, ⟨c0_7, c0_8, c0_9, c0_10, c0_11, c0_12, c0_13, c0_14⟩, c0_15, c0_16, c0_17, c0_18, c0_19⟩ := c0
  change Spec _ _ ([Value.agg #[.int .i64 a0_1, .int .i64 a0_2, .int .i64 a0_3, .int .i64 a0_4, .int .i64 a0_5, .int .i64 a0_6, .int .i64 a0_7, .int .i64 a0_8, .int .i64 a0_9, .string a0_10, .string a0_11, .string a0_12, .int .i64 a0_13, (TL.hdr a0_14), .int .i64 a0_15, (TL.hdr a0_16), .int .i64 a0_17, .int .i64 a0_18, .bool a0_19], Value.pointer (some ⟨b0, 0, none⟩)] : List Value).toArray w [] _
  refine Spec.intro Tryz.func85 rfl Tryz.ntmps85 rfl ?_
  unfold i_hasMsg_c1 at hp
  replace hp := dd hp
  refine s2 ?_
  refine bx fun bk2 => ?_
  refine s5 ?_
  refine L_loadW rfl rfl (RdC.old hb0) (by exact agg74.h) ?_
  replace hp := ba hp; obtain ⟨y1, hy1, hp⟩ := hp
  refine L_callX rfl fn86.h rfl (by exact fun w hw => i_SameMsg_walk w (a0_1, a0_2, a0_3, (a0_4, a0_5), a0_6, (a0_7, a0_8, a0_9, a0_10, a0_11, a0_12, a0_13, a0_14), a0_15, a0_16, a0_17, a0_18, a0_19) (c0_1, c0_2, c0_3, (c0_4, c0_5), c0_6, (c0_7, c0_8, c0_9, c0_10, c0_11, c0_12, c0_13, c0_14), c0_15, c0_16, c0_17, c0_18, c0_19) (RdT.now (RdT.pair RdT.int (RdT.pair RdT.int (RdT.pair RdT.int (RdT.pair (RdT.pair RdT.int RdT.int) (RdT.pair RdT.int (RdT.pair (RdT.pair RdT.int (RdT.pair RdT.int (RdT.pair RdT.int (RdT.pair RdT.str (RdT.pair RdT.str (RdT.pair RdT.str (RdT.pair RdT.int (RdT.old h0.2.2.2.2.2.1.2.2.2.2.2.2.2)))))))) (RdT.pair RdT.int (RdT.pair (RdT.old h0.2.2.2.2.2.2.2.1) (RdT.pair RdT.int (RdT.pair RdT.int RdT.bool)))))))))) hw) (RdT.now (RdT.pair RdT.int (RdT.pair RdT.int (RdT.pair RdT.int (RdT.pair (RdT.pair RdT.int RdT.int) (RdT.pair RdT.int (RdT.pair (RdT.pair RdT.int (RdT.pair RdT.int (RdT.pair RdT.int (RdT.pair RdT.str (RdT.pair RdT.str (RdT.pair RdT.str (RdT.pair RdT.int (RdT.old hc0.2.2.2.2.2.1.2.2.2.2.2.2.2)))))))) (RdT.pair RdT.int (RdT.pair (RdT.old hc0.2.2.2.2.2.2.2.1) (RdT.pair RdT.int (RdT.pair RdT.int RdT.bool)))))))))) hw) _ hy1) ?_
  refine s2 ?_
  obtain rfl := Option.some.inj hp
  refine s1 ?_
  refine res1 rfl (ResOK.tmp rfl) ⟨rfl, rfl⟩ ms
noncomputable def sl_IndexFunc_implEMsgimplEMsg (a0 : List D_EMsg) (a1 : D_EMsg → Option Bool) : Option Int :=
  whileP (fun s1 : Int => cond (decide (s1 < (a0.length : Int))) (Option.bind (idx a0 s1) (fun y3 => Option.bind (a1 (y3.1, y3.2.1, y3.2.2.1, (y3.2.2.2.1.1, y3.2.2.2.1.2), y3.2.2.2.2.1, (y3.2.2.2.2.2.1.1, y3.2.2.2.2.2.1.2.1, y3.2.2.2.2.2.1.2.2.1, y3.2.2.2.2.2.1.2.2.2.1, y3.2.2.2.2.2.1.2.2.2.2.1, y3.2.2.2.2.2.1.2.2.2.2.2.1, y3.2.2.2.2.2.1.2.2.2.2.2.2.1, y3.2.2.2.2.2.1.2.2.2.2.2.2.2), y3.2.2.2.2.2.2.1, y3.2.2.2.2.2.2.2.1, y3.2.2.2.2.2.2.2.2.1, y3.2.2.2.2.2.2.2.2.2.1, y3.2.2.2.2.2.2.2.2.2.2)) (fun y4 => cond y4 (Option.map .inr (some s1)) (some (.inl (IntKind.wrap .i64 (s1 + 1))))))) (Option.map .inr (some (-1)))) 0
theorem sl_IndexFunc_implEMsgimplEMsg_walk (w : World) (a0 : TL T_EMsg) (f1 : Nat) (cs1 : List Value) (a1 : D_EMsg → Option Bool) (h0 : GT.rd w [] a0) (hf1 : IsFn Tryz.prog f1) (hk1 : ∀ (w' : World) (F : List HP) (u0 : T_EMsg) (v : Bool), Holds w [] F w' → GT.rd w' [] u0 → a1 (GT.dat u0) = some v → Spec Tryz.prog f1 ([Value.agg (GT.cells u0).toArray] ++ cs1).toArray w' [] (IsV (.bool v))) (r : Int) (hp : sl_IndexFunc_implEMsgimplEMsg (GT.dat a0) a1 = some r) : Spec Tryz.prog 126 [(TL.hdr a0), .func (.func f1) #[] cs1.toArray].toArray w [] (IsV (.int .i64 r)) := by
  refine Spec.intro Tryz.func126 rfl Tryz.ntmps126 rfl ?_
  unfold sl_IndexFunc_implEMsgimplEMsg at hp
  replace hp := dd hp
  refine s12 ?_
  refine W_while (σ := Int) GT.dat (fun (v1_0 : Int) => [(8, .int .i64 v1_0)]) (fun (v1_0 : Int) => []) [(0, _), (1, _), (7, _)] [] 0 hp sb ms ?_
  clear hp
  rintro v1_0 x1 hp hx1
  replace hp := dd hp
  refine kq [0, 1, 7, 8] ?_
  refine s5 ?_
  refine kp [0, 1, 7, 8, 9] ?_
  refine W_cond rfl (fun hc2 => ?_) (fun hc2 => ?_)
  · replace hp := cond_t hc2 hp
    refine s13 ?_
    replace hp := idx_bind hp; obtain ⟨⟨u3_1, u3_2, u3_3, ⟨u3_4, u3_5⟩, u3_6, ⟨u3_7, u3_8, u3_9, u3_10, u3_11, u3_12, u3_13, u3_14⟩, u3_15, u3_16, u3_17, u3_18, u3_19⟩, hy3, hp⟩ := hp
    refine L_idxA (X := a0) rfl rfl rfl el29.h (RdT.old h0) hy3 ?_
    refine L_loadW rfl rfl (RdT.at (RdT.old h0) (hy3).2) (by exact agg74.h) ?_
    replace hp := ba hp; obtain ⟨y4, hy4, hp⟩ := hp
    refine L_callVX rfl rfl hf1 rfl (by exact fun w hw => hk1 w _ (u3_1, u3_2, u3_3, (u3_4, u3_5), u3_6, (u3_7, u3_8, u3_9, u3_10, u3_11, u3_12, u3_13, u3_14), u3_15, u3_16, u3_17, u3_18, u3_19) y4 hw (RdT.now (RdT.pair RdT.int (RdT.pair RdT.int (RdT.pair RdT.int (RdT.pair (RdT.pair RdT.int RdT.int) (RdT.pair RdT.int (RdT.pair (RdT.pair RdT.int (RdT.pair RdT.int (RdT.pair RdT.int (RdT.pair RdT.str (RdT.pair RdT.str (RdT.pair RdT.str (RdT.pair RdT.int (RdT.snd (RdT.snd (RdT.snd (RdT.snd (RdT.snd (RdT.snd (RdT.snd (RdT.fst (RdT.snd (RdT.snd (RdT.snd (RdT.snd (RdT.snd (RdT.of (RdT.old h0) (hy3).2))))))))))))))))))))) (RdT.pair RdT.int (RdT.pair (RdT.fst (RdT.snd (RdT.snd (RdT.snd (RdT.snd (RdT.snd (RdT.snd (RdT.snd (RdT.of (RdT.old h0) (hy3).2))))))))) (RdT.pair RdT.int (RdT.pair RdT.int RdT.bool)))))))))) hw) hy4) ?_
    refine s1 ?_
    refine kp [0, 1, 5, 7, 8, 16] ?_
    refine W_cond rfl (fun hc5 => ?_) (fun hc5 => ?_)
    · replace hp := cond_t hc5 hp
      refine s5 ?_
      replace hp := map_any hp; obtain ⟨a6, hp, hx_a6⟩ := hp
      obtain rfl := hx1 _ hx_a6
      obtain rfl := Option.some.inj hp
      refine s1 ?_
      refine res1 rfl (ResOK.tmp rfl) ⟨rfl, rfl⟩ ms
    · replace hp := cond_f hc5 hp
      refine s5 ?_
      exact ⟨IntKind.wrap .i64 (v1_0 + 1), sb, (.sub ms), some_eq hp⟩
  · replace hp := cond_f hc2 hp
    refine W_exit ?_
    replace hp := map_any hp; obtain ⟨a7, hp, hx_a7⟩ := hp
    obtain rfl := hx1 _ hx_a7
    refine s4 ?_
    obtain rfl := Option.some.inj hp
    refine s1 ?_
    refine res1 rfl (ResOK.tmp rfl) ⟨rfl, rfl⟩ ms
noncomputable def sl_ContainsFunc_implEMsgimplEMsg (a0 : List D_EMsg) (a1 : D_EMsg → Option Bool) : Option Bool :=
  Option.bind (sl_IndexFunc_implEMsgimplEMsg a0 a1) (fun y1 => some (decide (0 ≤ y1)))
theorem sl_ContainsFunc_implEMsgimplEMsg_walk (w : World) (a0 : TL T_EMsg) (f1 : Nat) (cs1 : List Value) (a1 : D_EMsg → Option Bool) (h0 : GT.rd w [] a0) (hf1 : IsFn Tryz.prog f1) (hk1 : ∀ (w' : World) (F : List HP) (u0 : T_EMsg) (v : Bool), Holds w [] F w' → GT.rd w' [] u0 → a1 (GT.dat u0) = some v → Spec Tryz.prog f1 ([Value.agg (GT.cells u0).toArray] ++ cs1).toArray w' [] (IsV (.bool v))) (r : Bool) (hp : sl_ContainsFunc_implEMsgimplEMsg (GT.dat a0) a1 = some r) : Spec Tryz.prog 84 [(TL.hdr a0), .func (.func f1) #[] cs1.toArray].toArray w [] (IsV (.bool r)) := by
  refine Spec.intro Tryz.func84 rfl Tryz.ntmps84 rfl ?_
  unfold sl_ContainsFunc_implEMsgimplEMsg at hp
  replace hp := dd hp
  refine s8 ?_
  replace hp := ba hp; obtain ⟨y1, hy1, hp⟩ := hp
  refine L_callX rfl fn126.h rfl (by exact fun w hw => sl_IndexFunc_implEMsgimplEMsg_walk w a0 f1 cs1 a1 (RdT.now (RdT.old h0) hw) hf1 (fun w' F u0 v hF hu0 hv => hk1 w' _ u0 v (Holds.frame (M1 := []) (M2 := _) hw hF) hu0 hv) _ hy1) ?_
  refine s3 ?_
  obtain rfl := Option.some.inj hp
  refine s1 ?_
  refine res1 rfl (ResOK.tmp rfl) ⟨rfl, rfl⟩ ms
noncomputable def i_hasMsg (a0 : List D_EMsg) (a1 : D_EMsg) : Option Bool :=
  Option.bind (sl_ContainsFunc_implEMsgimplEMsg a0 (fun z0 => i_hasMsg_c1 z0 (a1.1, a1.2.1, a1.2.2.1, (a1.2.2.2.1.1, a1.2.2.2.1.2), a1.2.2.2.2.1, (a1.2.2.2.2.2.1.1, a1.2.2.2.2.2.1.2.1, a1.2.2.2.2.2.1.2.2.1, a1.2.2.2.2.2.1.2.2.2.1, a1.2.2.2.2.2.1.2.2.2.2.1, a1.2.2.2.2.2.1.2.2.2.2.2.1, a1.2.2.2.2.2.1.2.2.2.2.2.2.1, a1.2.2.2.2.2.1.2.2.2.2.2.2.2), a1.2.2.2.2.2.2.1, a1.2.2.2.2.2.2.2.1, a1.2.2.2.2.2.2.2.2.1, a1.2.2.2.2.2.2.2.2.2.1, a1.2.2.2.2.2.2.2.2.2.2))) (fun y1 => some y1)
theorem i_hasMsg_walk (w : World) (a0 : TL T_EMsg) (a1 : T_EMsg) (h0 : GT.rd w [] a0) (h1 : GT.rd w [] a1) (r : Bool) (hp : i_hasMsg (GT.dat a0) (GT.dat a1) = some r) : Spec Tryz.prog 42 [(TL.hdr a0), .agg (GT.cells a1).toArray].toArray w [] (IsV (.bool r)) := by
  obtain ⟨a1_1, a1_2, a1_3, ⟨a1_4, a1_5⟩, a1_6, ⟨a1_7, a1_8, a1_9, a1_10, a1_11, a1_12, a1_13, a1_14⟩, a1_15, a1_16, a1_17, a1_18, a1_19⟩ := a1
  change Spec _ _ ([(TL.hdr a0), Value.agg #[.int .i64 a1_1, .int .i64 a1_2, .int .i64 a1_3, .int .i64 a1_4, .int .i64 a1_5, .int .i64 a1_6, .int .i64 a1_7, .int .i64 a1_8, .int .i64 a1_9, .string a1_10, .string a1_11, .string a1_12, .int .i64 a1_13, (TL.hdr a1_14), .int .i64 a1_15, (TL.hdr a1_16), .int .i64 a1_17, .int .i64 a1_18, .bool a1_19]] : List Value).toArray w [] _
  refine Spec.intro Tryz.func42 rfl Tryz.ntmps42 rfl ?_
  unfold i_hasMsg at hp
  replace hp := dd hp
  refine s2 ?_
  refine bx fun bk3 => ?_
  refine s5 ?_
  refine L_makeFunc (fs := []) (cs := [.tmp 3]) rfl rfl rfl ?_
  replace hp := ba hp; obtain ⟨y1, hy1, hp⟩ := hp
  refine L_callX rfl fn84.h rfl (by exact fun w hw => sl_ContainsFunc_implEMsgimplEMsg_walk w a0 85 [Value.pointer (some ⟨bk3, 0, none⟩)] (fun z0 => i_hasMsg_c1 z0 (a1_1, a1_2, a1_3, (a1_4, a1_5), a1_6, (a1_7, a1_8, a1_9, a1_10, a1_11, a1_12, a1_13, GT.dat a1_14), a1_15, GT.dat a1_16, a1_17, a1_18, a1_19)) (RdT.now (RdT.old h0) hw) fn85.h (fun w' F u0 v hF hu0 hv => i_hasMsg_c1_walk w' u0 bk3 (a1_1, a1_2, a1_3, (a1_4, a1_5), a1_6, (a1_7, a1_8, a1_9, a1_10, a1_11, a1_12, a1_13, a1_14), a1_15, a1_16, a1_17, a1_18, a1_19) hu0 ((cells_of_blk mm hw.sees).carry hF) (rd_carry (RdT.now (RdT.pair RdT.int (RdT.pair RdT.int (RdT.pair RdT.int (RdT.pair (RdT.pair RdT.int RdT.int) (RdT.pair RdT.int (RdT.pair (RdT.pair RdT.int (RdT.pair RdT.int (RdT.pair RdT.int (RdT.pair RdT.str (RdT.pair RdT.str (RdT.pair RdT.str (RdT.pair RdT.int (RdT.old h1.2.2.2.2.2.1.2.2.2.2.2.2.2)))))))) (RdT.pair RdT.int (RdT.pair (RdT.old h1.2.2.2.2.2.2.2.1) (RdT.pair RdT.int (RdT.pair RdT.int RdT.bool)))))))))) hw) hF) v hv) _ hy1) ?_
  refine s2 ?_
  obtain rfl := Option.some.inj hp
  refine s1 ?_
  refine res1 rfl (ResOK.tmp rfl) ⟨rfl, rfl⟩ ms
noncomputable def i_ENetOk (a0 : D_ENet) : Option Bool :=
  cond ((!decide ((a0.1.length : Int) = 3)) || (decide (160 < (a0.2.length : Int)))) (some false) (whileP (fun s2 : Int => cond (decide (s2 < (a0.1.length : Int))) (Option.bind (idx a0.1 s2) (fun y4 => Option.bind (i_ENodeOk (y4.1, y4.2.1, y4.2.2.1, y4.2.2.2)) (fun y5 => cond ((!y5) || (!decide (y4.1 = s2))) (Option.map .inr (some false)) (some (.inl (IntKind.wrap .i64 (s2 + 1))))))) (Option.map .inr (whileP (fun s9 : Int => cond (decide (s9 < (a0.2.length : Int))) (Option.bind (idx a0.2 s9) (fun y11 => Option.bind (i_EMsgOk (y11.1, y11.2.1, y11.2.2.1, (y11.2.2.2.1.1, y11.2.2.2.1.2), y11.2.2.2.2.1, (y11.2.2.2.2.2.1.1, y11.2.2.2.2.2.1.2.1, y11.2.2.2.2.2.1.2.2.1, y11.2.2.2.2.2.1.2.2.2.1, y11.2.2.2.2.2.1.2.2.2.2.1, y11.2.2.2.2.2.1.2.2.2.2.2.1, y11.2.2.2.2.2.1.2.2.2.2.2.2.1, y11.2.2.2.2.2.1.2.2.2.2.2.2.2), y11.2.2.2.2.2.2.1, y11.2.2.2.2.2.2.2.1, y11.2.2.2.2.2.2.2.2.1, y11.2.2.2.2.2.2.2.2.2.1, y11.2.2.2.2.2.2.2.2.2.2)) (fun y12 => gb (!(!y12)) (slcP a0.2 0 s9) (fun y14 => gb (!(!y12)) (i_hasMsg y14 (y11.1, y11.2.1, y11.2.2.1, (y11.2.2.2.1.1, y11.2.2.2.1.2), y11.2.2.2.2.1, (y11.2.2.2.2.2.1.1, y11.2.2.2.2.2.1.2.1, y11.2.2.2.2.2.1.2.2.1, y11.2.2.2.2.2.1.2.2.2.1, y11.2.2.2.2.2.1.2.2.2.2.1, y11.2.2.2.2.2.1.2.2.2.2.2.1, y11.2.2.2.2.2.1.2.2.2.2.2.2.1, y11.2.2.2.2.2.1.2.2.2.2.2.2.2), y11.2.2.2.2.2.2.1, y11.2.2.2.2.2.2.2.1, y11.2.2.2.2.2.2.2.2.1, y11.2.2.2.2.2.2.2.2.2.1, y11.2.2.2.2.2.2.2.2.2.2)) (fun y15 => cond ((!y12) || y15) (Option.map .inr (some false)) (some (.inl (IntKind.wrap .i64 (s9 + 1))))))))) (Option.map .inr (some true))) 0))) 0)
theorem i_ENetOk_walk (w : World) (a0 : T_ENet) (h0 : GT.rd w [] a0) (r : Bool) (hp : i_ENetOk (GT.dat a0) = some r) : Spec Tryz.prog 22 [.agg (GT.cells a0).toArray].toArray w [] (IsV (.bool r)) := by
  obtain ⟨a0_1, a0_2⟩ := a0
  change Spec _ _ ([Value.agg #[(TL.hdr a0_1), (TL.hdr a0_2)]] : List Value).toArray w [] _
  refine Spec.intro Tryz.func22 rfl Tryz.ntmps22 rfl ?_
  unfold i_ENetOk at hp
  replace hp := dd hp
  refine s2 ?_
  refine bx fun bk1 => ?_
  refine s4 ?_
  refine W_D0 [16] mix (by kernel_rfl) rfl ?_
  refine s2 ?_
  refine D_lenP (X := a0_1) GC.none (OpV.t rfl) el28.h ?_
  refine s4 ?_
  refine D_lenP (X := a0_2) (GC.some rfl rfl) (OpV.s rfl) el29.h ?_
  refine s14 ?_
  refine kp [1, 16] ?_
  refine W_cond rfl (fun hc1 => ?_) (fun hc1 => ?_)
  · replace hp := cond_t hc1 hp
    refine s4 ?_
    obtain rfl := Option.some.inj hp
    refine s1 ?_
    refine res1 rfl (ResOK.tmp rfl) ⟨rfl, rfl⟩ ms
  · replace hp := cond_f hc1 hp
    refine s10 ?_
    refine W_while (σ := Int) GT.dat (fun (v2_0 : Int) => [(20, .int .i64 v2_0)]) (fun (v2_0 : Int) => []) [(1, _), (18, _), (19, _)] [blk bk1 _ _] 0 hp sb ms ?_
    clear hp
    rintro v2_0 x2 hp hx2
    replace hp := dd hp
    refine kq [1, 18, 19, 20] ?_
    refine s5 ?_
    refine kp [1, 18, 19, 20, 21] ?_
    refine W_cond rfl (fun hc3 => ?_) (fun hc3 => ?_)
    · replace hp := cond_t hc3 hp
      refine s6 ?_
      replace hp := idx_bind hp; obtain ⟨⟨u4_1, u4_2, u4_3, u4_4⟩, hy4, hp⟩ := hp
      refine L_idxA (X := a0_1) rfl rfl rfl el28.h (RdT.old h0.1) hy4 ?_
      refine L_loadW rfl rfl (RdT.at (RdT.old h0.1) (hy4).2) (by exact agg46.h) ?_
      refine al fun bk4 => ?_
      refine s4 ?_
      replace hp := ba hp; obtain ⟨y5, hy5, hp⟩ := hp
      refine W_D0 [33] mix (by kernel_rfl) rfl ?_
      refine s1 ?_
      refine D_callX GC.none fn40.h (OpVs.cons (OpV.t rfl) (OpVs.nil)) (by exact fun hg w F hF hM => i_ENodeOk_walk w (u4_1, u4_2, u4_3, u4_4) (RdT.nowS (RdT.pair RdT.int (RdT.pair RdT.int (RdT.pair (RdT.fst (RdT.snd (RdT.snd (RdT.of (RdT.old h0.1) (hy4).2)))) (RdT.snd (RdT.snd (RdT.snd (RdT.of (RdT.old h0.1) (hy4).2))))))) hF hM) _ hy5) ?_
      refine s18 ?_
      refine kp [1, 18, 19, 20, 33] ?_
      refine W_cond rfl (fun hc6 => ?_) (fun hc6 => ?_)
      · replace hp := cond_t hc6 hp
        refine s4 ?_
        replace hp := map_any hp; obtain ⟨a7, hp, hx_a7⟩ := hp
        obtain rfl := hx2 _ hx_a7
        obtain rfl := Option.some.inj hp
        refine s1 ?_
        refine res1 rfl (ResOK.tmp rfl) ⟨rfl, rfl⟩ ms
      · replace hp := cond_f hc6 hp
        refine s5 ?_
        exact ⟨IntKind.wrap .i64 (v2_0 + 1), sb, (.sub ms), some_eq hp⟩
    · replace hp := cond_f hc3 hp
      refine W_exit ?_
      replace hp := map_any hp; obtain ⟨a8, hp, hx_a8⟩ := hp
      obtain rfl := hx2 _ hx_a8
      refine s9 ?_
      refine W_while (σ := Int) GT.dat (fun (v9_0 : Int) => [(38, .int .i64 v9_0)]) (fun (v9_0 : Int) => []) [(1, _), (36, _), (37, _)] [blk bk1 _ _] 0 hp sb ms ?_
      clear hp
      rintro v9_0 x9 hp hx9
      replace hp := dd hp
      refine kq [1, 36, 37, 38] ?_
      refine s5 ?_
      refine kp [1, 36, 37, 38, 39] ?_
      refine W_cond rfl (fun hc10 => ?_) (fun hc10 => ?_)
      · replace hp := cond_t hc10 hp
        refine s6 ?_
        replace hp := idx_bind hp; obtain ⟨⟨u11_1, u11_2, u11_3, ⟨u11_4, u11_5⟩, u11_6, ⟨u11_7, u11_8, u11_9, u11_10, u11_11, u11_12, u11_13, u11_14⟩, u11_15, u11_16, u11_17, u11_18, u11_19⟩, hy11, hp⟩ := hp
        refine L_idxA (X := a0_2) rfl rfl rfl el29.h (RdT.old h0.2) hy11 ?_
        refine L_loadW rfl rfl (RdT.at (RdT.old h0.2) (hy11).2) (by exact agg74.h) ?_
        refine al fun bk6 => ?_
        refine s4 ?_
        replace hp := ba hp; obtain ⟨y12, hy12, hp⟩ := hp
        replace hp := gb_anyD hp; obtain ⟨y14, hy14, hny14, hp⟩ := hp
        replace hp := gb_any hp; obtain ⟨y15, hy15, hp⟩ := hp
        refine W_D0 [53] mix (by kernel_rfl) rfl ?_
        refine s1 ?_
        refine D_callX GC.none fn41.h (OpVs.cons (OpV.t rfl) (OpVs.nil)) (by exact fun hg w F hF hM => i_EMsgOk_walk w (u11_1, u11_2, u11_3, (u11_4, u11_5), u11_6, (u11_7, u11_8, u11_9, u11_10, u11_11, u11_12, u11_13, u11_14), u11_15, u11_16, u11_17, u11_18, u11_19) (RdT.nowS (RdT.pair RdT.int (RdT.pair RdT.int (RdT.pair RdT.int (RdT.pair (RdT.pair RdT.int RdT.int) (RdT.pair RdT.int (RdT.pair (RdT.pair RdT.int (RdT.pair RdT.int (RdT.pair RdT.int (RdT.pair RdT.str (RdT.pair RdT.str (RdT.pair RdT.str (RdT.pair RdT.int (RdT.snd (RdT.snd (RdT.snd (RdT.snd (RdT.snd (RdT.snd (RdT.snd (RdT.fst (RdT.snd (RdT.snd (RdT.snd (RdT.snd (RdT.snd (RdT.of (RdT.old h0.2) (hy11).2))))))))))))))))))))) (RdT.pair RdT.int (RdT.pair (RdT.fst (RdT.snd (RdT.snd (RdT.snd (RdT.snd (RdT.snd (RdT.snd (RdT.snd (RdT.of (RdT.old h0.2) (hy11).2))))))))) (RdT.pair RdT.int (RdT.pair RdT.int RdT.bool)))))))))) hF hM) _ hy12) ?_
        refine s5 ?_
        refine D_slcG (X := a0_2) (GC.some rfl rfl) (OpV.s rfl) optD.none (optD.some (OpV.s rfl)) el29.h rfl (RdT.old h0.2) (fun hg => hy14 (gnot hg.2)) (fun hn => hny14 (by simpa using hn)) (fun X13 hdX13 hRX13 => ?_)
        subst hdX13
        refine s1 ?_
        refine D_callX (GC.some rfl rfl) fn42.h (OpVs.cons (OpV.s rfl) (OpVs.cons (OpV.s rfl) (OpVs.nil))) (by exact fun hg w F hF hM => i_hasMsg_walk w X13 (u11_1, u11_2, u11_3, (u11_4, u11_5), u11_6, (u11_7, u11_8, u11_9, u11_10, u11_11, u11_12, u11_13, u11_14), u11_15, u11_16, u11_17, u11_18, u11_19) (RdT.nowS (RdT.map hRX13 (RdT.old h0.2)) hF hM) (RdT.nowS (RdT.pair RdT.int (RdT.pair RdT.int (RdT.pair RdT.int (RdT.pair (RdT.pair RdT.int RdT.int) (RdT.pair RdT.int (RdT.pair (RdT.pair RdT.int (RdT.pair RdT.int (RdT.pair RdT.int (RdT.pair RdT.str (RdT.pair RdT.str (RdT.pair RdT.str (RdT.pair RdT.int (RdT.snd (RdT.snd (RdT.snd (RdT.snd (RdT.snd (RdT.snd (RdT.snd (RdT.fst (RdT.snd (RdT.snd (RdT.snd (RdT.snd (RdT.snd (RdT.of (RdT.old h0.2) (hy11).2))))))))))))))))))))) (RdT.pair RdT.int (RdT.pair (RdT.fst (RdT.snd (RdT.snd (RdT.snd (RdT.snd (RdT.snd (RdT.snd (RdT.snd (RdT.of (RdT.old h0.2) (hy11).2))))))))) (RdT.pair RdT.int (RdT.pair RdT.int RdT.bool)))))))))) hF hM) _ (hy15 (gnot hg.2))) ?_
        refine s14 ?_
        refine kp [1, 36, 37, 38, 53] ?_
        refine W_cond rfl (fun hc16 => ?_) (fun hc16 => ?_)
        · replace hp := cond_t hc16 hp
          refine s4 ?_
          replace hp := map_any hp; obtain ⟨a17, hp, hx_a17⟩ := hp
          obtain rfl := hx9 _ hx_a17
          obtain rfl := Option.some.inj hp
          refine s1 ?_
          refine res1 rfl (ResOK.tmp rfl) ⟨rfl, rfl⟩ ms
        · replace hp := cond_f hc16 hp
          refine s5 ?_
          exact ⟨IntKind.wrap .i64 (v9_0 + 1), sb, (.sub ms), some_eq hp⟩
      · replace hp := cond_f hc10 hp
        refine W_exit ?_
        replace hp := map_any hp; obtain ⟨a18, hp, hx_a18⟩ := hp
        obtain rfl := hx9 _ hx_a18
        refine s4 ?_
        obtain rfl := Option.some.inj hp
        refine s1 ?_
        refine res1 rfl (ResOK.tmp rfl) ⟨rfl, rfl⟩ ms
end Go.Proofs.SL
namespace Go.Proofs.SL
open Go
set_option maxHeartbeats 2000000
instance el85 : ElF Tryz.prog 85 51 1 24 [.slice none 0 0] := ⟨by kernel_rfl⟩
theorem sl_SortFunc_implIdimplId_walk (w : World) (a0 : TL T_Id) (f1 : Nat) (cs1 : List Value) (a1 : D_Id → D_Id → Option Int) (hf1 : IsFn Tryz.prog f1) (hk1 : ∀ (w' : World) (F : List HP) (u0 u1 : T_Id) (v : Int), Holds w (fps [treeH a0]) F w' → GT.rd w' [] u0 → GT.rd w' [] u1 → a1 (GT.dat u0) (GT.dat u1) = some v → Spec Tryz.prog f1 ([Value.agg (GT.cells u0).toArray, Value.agg (GT.cells u1).toArray] ++ cs1).toArray w' [] (IsV (.int .i64 v))) (r : List D_Id) (hp : sortFn (GT.dat a0) a1 = some r) : Spec Tryz.prog 139 [(TL.hdr a0), .func (.func f1) #[] cs1.toArray].toArray w [treeH a0] (fun v M => ∃ (y0 : TL T_Id), v = .tuple #[] ∧ GT.dat y0 = r ∧ M = [treeH y0] ∧ y0.hdr = a0.hdr) :=
  Spec.sortN w a0 cs1 a1 r hp (fun w' F x y v hF hv => hk1 w' F x y v hF (flat_rd x _ _) (flat_rd y _ _) hv)
    (fun b off cap d hO hc hH hb hsz => Go.Proofs.AnyQ.slices_SortFunc_eq Tryz.laysSF139 2 Tryz.isAgg71 Tryz.sizeOf71 (fun x : T_Id => GT.cells x) (fun x => GT.len x) (fun x v hv => GT.one x v hv) (fun x y : T_Id => (a1 (GT.dat x) (GT.dat y)).getD 0) hO f1 cs1.toArray b off cap d w hf1.run hc hH hb hsz)
    (fun p cap => Go.Proofs.AnyF.slices_SortFunc_none Tryz.laysSF139 p cap _ w)
theorem sl_Delete_implIdimplId_walkH (w : World) (a0 : TL (TL T_Id)) (u0 : (TL T_Id)) (a1 a2 : Int) (hu : a0.els[a1.toNat]? = some u0) (h12 : a2 = IntKind.wrap .i64 (a1 + 1)) (r : List (List D_Id)) (hp : delP (GT.dat a0) a1 a2 = some r) : Spec Tryz.prog 105 [(TL.hdr a0), .int .i64 a1, .int .i64 a2].toArray w [holeH a0 a1.toNat (GT.cells u0)] (fun v M => ∃ (x0 : TL (TL T_Id)), v = (TL.hdr x0) ∧ GT.dat x0 = r ∧ M = [treeH x0]) := by
  refine Spec.intro Tryz.func105 rfl Tryz.ntmps105 rfl ?_
  unfold delP at hp
  split at hp
  rotate_left
  · cases hp
  rename_i hb
  obtain rfl := Option.some.inj hp
  obtain ⟨h0, h1, h2⟩ := hb
  rw [dat_els, List.length_map] at h2
  obtain ⟨i, rfl⟩ := Int.eq_ofNat_of_zero_le h0
  obtain ⟨j, rfl⟩ := Int.eq_ofNat_of_zero_le (show 0 ≤ a2 by omega)
  simp only [Int.toNat_natCast] at hu ⊢
  have hij : i < j := by omega
  have hjl : j ≤ a0.els.length := by omega
  refine W_rawH (X := a0) hu pk (fun fa fl fm ft => ?_)
  have hj1 : j = i + 1 := by
    rw [wrap64_in (n := (i : Int) + 1) (by unfold inR; unfold maxLen at fm; omega)] at h12
    omega
  have hsz : GT.sz (TL T_Id) = 1 := rfl
  rw [hsz] at ft
  have hcl : (rowCells a0.els ++ a0.tail).length = a0.cap * 1 := by rw [List.length_append, length_rowCells, hsz]; exact ft
  have hone : ∀ u, u ∈ rowCells a0.els ++ a0.tail → True := fun _ _ => trivial
  have hh : a0.hdr = .slice (some ⟨a0.g, 0, none⟩) a0.els.length a0.cap := by show Value.slice a0.a _ _ = _; rw [fa]
  rw [hh]
  refine s10 ?_
  refine L_lenS rfl rfl el85.h ?_
  refine L_sl3 rfl rfl rfl rfl rfl el85.h (by omega) (by omega) (by omega) (by omega) (fun _ => ?_)
  refine s8 ?_
  refine W_cond rfl (fun hc => ?_) (fun hc => ?_)
  · exfalso; simp at hc; omega
  refine s4 ?_
  refine L_lenS rfl rfl el85.h ?_
  refine s3 ?_
  refine W_DS (pre := [_, _, _, _, _, _]) (suf := [_, _]) [22, 25] [] _ pc mix (by kernel_rfl) (by kernel_rfl) rfl ?_
  refine s2 ?_
  refine D_slV (g := a0.g) (o := 0) (n := a0.els.length) (c := a0.cap) (a := 0) (b := (i : Int)) GC.none (OpV.t rfl) optD.none (optD.some (OpV.t rfl)) el85.h (by omega) (by omega) (by omega) ?_
  refine s2 ?_
  refine D_slV (g := a0.g) (o := 0) (n := a0.els.length) (c := a0.cap) (a := (j : Int)) (b := (a0.els.length : Int)) GC.none (OpV.t rfl) (optD.some (OpV.t rfl)) optD.none el85.h (by omega) (by omega) (by omega) ?_
  refine s8 ?_
  simp only [Int.toNat_natCast, Int.toNat_zero, sl0, Nat.sub_zero]
  have hseg := seg_drop (X := a0) (j := j) (sz := 1) rfl hjl fl
  have e1 : i * 1 + (a0.els.length - j) * 1 ≤ a0.cap * 1 := by rw [← Nat.add_mul]; exact Nat.mul_le_mul_right _ (by omega)
  refine L_appRaw (n := i) (m := a0.els.length - j) (o := slA 0 a0.cap j 1) rfl rfl rfl el85.h pk (by omega) (by
    rw [hcl]; unfold slA; split
    · have : a0.els.length - j = 0 := by omega
      rw [this]; omega
    · rw [Nat.zero_add, ← Nat.add_mul]; exact Nat.mul_le_mul_right _ (by omega)) (by rw [hcl]; exact e1) (by rw [hseg]; exact fun u hu => rowCells_one _ u hu) ?_
  rw [hseg]
  generalize hcs : (rowCells a0.els ++ a0.tail).take (i * 1) ++ rowCells (a0.els.drop j) ++ (rowCells a0.els ++ a0.tail).drop (i * 1 + (a0.els.length - j) * 1) = cs
  have hcsl : cs.length = a0.cap * 1 := by
    rw [← hcs]
    simp only [List.length_append, List.length_take, List.length_drop, length_rowCells, hsz] at hcl ⊢
    omega
  refine s6 ?_
  refine L_lenS rfl rfl el85.h ?_
  refine s1 ?_
  refine L_slV (g := a0.g) (o := 0) (n := i + (a0.els.length - j)) (c := a0.cap) (a := ((i + (a0.els.length - j) : Nat) : Int)) (b := (a0.els.length : Int)) rfl rfl rfl rfl el85.h (by omega) (by omega) (by omega) ?_
  simp only [Int.toNat_natCast]
  rw [slLt (show i + (a0.els.length - j) < a0.cap by omega)]
  refine L_clrRaw rfl el85.h rfl (allOne rfl) pk (by rw [hcsl, ← Nat.add_mul]; exact Nat.mul_le_mul_right _ (by omega)) (by omega) ?_
  rw [del_cells (sz := 1) (List.flatten _) (show GT.sz (TL T_Id) = 1 from rfl) rfl hij hjl cs hcs.symm]
  refine s6 ?_
  refine W_conv (fun w h => els_eq (xs := a0.els.eraseIdx i) (ys := a0.els.take i ++ a0.els.drop j) (by rw [hj1, List.eraseIdx_eq_take_drop_succ]) pk h) ?_
  have hle : (a0.els.take i ++ a0.els.drop j).length = i + (a0.els.length - j) := by
    rw [List.length_append, List.length_take, List.length_drop, Nat.min_eq_left (by omega)]
  have htl : ((List.replicate (a0.els.length - (i + (a0.els.length - j))) ([.slice none 0 0] : List Value)).flatten ++ a0.tail).length = (a0.els.length - (i + (a0.els.length - j))) * 1 + a0.tail.length := by
    simp
  refine W_conv (fun w h => raw_close (τ := (TL T_Id)) (g := a0.g) (e := a0.e) (cap := a0.cap) (els := a0.els.take i ++ a0.els.drop j) (tail := (List.replicate (a0.els.length - (i + (a0.els.length - j))) ([.slice none 0 0] : List Value)).flatten ++ a0.tail) rfl (by rw [hle]; omega) fm (by
    rw [hle, htl, hsz]
    have h3 : (i + (a0.els.length - j)) * 1 + (a0.els.length - (i + (a0.els.length - j))) * 1 = a0.els.length * 1 := by rw [← Nat.add_mul]; congr 1; omega
    omega) pk pk h) ?_
  refine s1 ?_
  refine res1 rfl (ResOK.tmp rfl) ⟨⟨some ⟨a0.g, 0, none⟩, a0.cap, a0.e, a0.els.take i ++ a0.els.drop j, (List.replicate (a0.els.length - (i + (a0.els.length - j))) ([.slice none 0 0] : List Value)).flatten ++ a0.tail⟩, ?_, ?_, rfl⟩ ms
  · show Value.slice _ _ _ = Value.slice _ _ _
    rw [hle]
  · rw [dat_els, dat_els]
    simp [List.map_take, List.map_drop]
end Go.Proofs.SL
