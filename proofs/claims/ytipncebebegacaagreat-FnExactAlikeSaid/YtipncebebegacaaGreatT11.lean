/- The texts of the proof, part 11: the base, walks of functions, plain Lean. -/
import Derived.Test.YtipncebebegacaaGreatT10
import Derived.Test.YtipncebebegacaaGreatT8
import Derived.Test.YtipncebebegacaaGreatT6
namespace Go.Proofs.SL
open Go
instance:Inhabited T_EMsg:=⟨(0,0,0,(0,0),0,(0,0,0,ByteArray.empty,ByteArray.empty,ByteArray.empty,0,TL.nil ByteArray 0),0,TL.nil T_Id 0,0,0,false)⟩
set_option maxHeartbeats 2000000
abbrev D_EMsg:=Int×Int×Int×D_Id×Int×D_Cmd×Int×(List D_Id)×Int×Int×Bool
abbrev D_ENet:=(List D_ENode)×(List D_EMsg)
instance fld136_0:FldF Tryz.prog 136 0 0:=⟨by kernel_rfl⟩
instance fld136_1:FldF Tryz.prog 136 1 1:=⟨by kernel_rfl⟩
instance fld136_2:FldF Tryz.prog 136 2 2:=⟨by kernel_rfl⟩
instance fld136_3:FldF Tryz.prog 136 3 3:=⟨by kernel_rfl⟩
instance fld136_4:FldF Tryz.prog 136 4 5:=⟨by kernel_rfl⟩
instance fld136_5:FldF Tryz.prog 136 5 6:=⟨by kernel_rfl⟩
instance fld136_6:FldF Tryz.prog 136 6 14:=⟨by kernel_rfl⟩
instance fld136_7:FldF Tryz.prog 136 7 15:=⟨by kernel_rfl⟩
instance fld136_8:FldF Tryz.prog 136 8 16:=⟨by kernel_rfl⟩
instance fld136_9:FldF Tryz.prog 136 9 17:=⟨by kernel_rfl⟩
instance fn202:FnF Tryz.prog 202:=⟨_,Tryz.func202,by kernel_rfl,rfl⟩
instance fld136_10:FldF Tryz.prog 136 10 18:=⟨by kernel_rfl⟩
instance und4:UndF Tryz.prog 4 (.bool):=⟨by kernel_rfl⟩
instance el54:ElF Tryz.prog 54 136 19 208 [.int .i64 0,.int .i64 0,.int .i64 0,.int .i64 0,.int .i64 0,.int .i64 0,.int .i64 0,.int .i64 0,.int .i64 0,.string ByteArray.empty,.string ByteArray.empty,.string ByteArray.empty,.int .i64 0,.slice none 0 0,.int .i64 0,.slice none 0 0,.int .i64 0,.int .i64 0,.bool false]:=⟨by kernel_rfl⟩
instance agg136:AggF Tryz.prog 136 19:=⟨by kernel_rfl⟩
instance fn141:FnF Tryz.prog 141:=⟨_,Tryz.func141,by kernel_rfl,rfl⟩
instance fld56_0:FldF Tryz.prog 56 0 0:=⟨by kernel_rfl⟩
instance one53:OneF Tryz.prog 53:=⟨by kernel_rfl⟩
instance el53:ElF Tryz.prog 53 32 4 64 [.int .i64 0,.int .i64 0,.slice none 0 0,.slice none 0 0]:=⟨by kernel_rfl⟩
instance fld56_1:FldF Tryz.prog 56 1 1:=⟨by kernel_rfl⟩
instance one54:OneF Tryz.prog 54:=⟨by kernel_rfl⟩
instance fn27:FnF Tryz.prog 27:=⟨_,Tryz.func27,by kernel_rfl,rfl⟩
instance fn88:FnF Tryz.prog 88:=⟨_,Tryz.func88,by kernel_rfl,rfl⟩
instance fn89:FnF Tryz.prog 89:=⟨_,Tryz.func89,by kernel_rfl,rfl⟩
instance fn56:FnF Tryz.prog 56:=⟨_,Tryz.func56,by kernel_rfl,rfl⟩
instance fn148:FnF Tryz.prog 148:=⟨_,Tryz.func148,by kernel_rfl,rfl⟩
instance fn209:FnF Tryz.prog 209:=⟨_,Tryz.func209,by kernel_rfl,rfl⟩
instance fn147:FnF Tryz.prog 147:=⟨_,Tryz.func147,by kernel_rfl,rfl⟩
instance fn146:FnF Tryz.prog 146:=⟨_,Tryz.func146,by kernel_rfl,rfl⟩
instance zero32:ZerF Tryz.prog 32 [.int .i64 0,.int .i64 0,.slice none 0 0,.slice none 0 0]:=⟨by kernel_rfl⟩
instance fn32:FnF Tryz.prog 32:=⟨_,Tryz.func32,by kernel_rfl,rfl⟩
instance zero136:ZerF Tryz.prog 136 [.int .i64 0,.int .i64 0,.int .i64 0,.int .i64 0,.int .i64 0,.int .i64 0,.int .i64 0,.int .i64 0,.int .i64 0,.string ByteArray.empty,.string ByteArray.empty,.string ByteArray.empty,.int .i64 0,.slice none 0 0,.int .i64 0,.slice none 0 0,.int .i64 0,.int .i64 0,.bool false]:=⟨by kernel_rfl⟩
instance fn97:FnF Tryz.prog 97:=⟨_,Tryz.func97,by kernel_rfl,rfl⟩
instance fn98:FnF Tryz.prog 98:=⟨_,Tryz.func98,by kernel_rfl,rfl⟩
noncomputable def s_EMsgOk (a0:D_EMsg):Option Bool :=
 Option.bind (s_l1In a0.1 1 7) (fun y1=>gb y1 (s_l9Node a0.2.1) (fun y2=>gb (y1&&y2) (s_l9Node a0.2.2.1) (fun y3=>gb (((y1&&y2)&&y3)&&(!decide (a0.2.1=a0.2.2.1))) (s_l8Id (a0.2.2.2.1.1,a0.2.2.2.1.2)) (fun y4=>gb ((((y1&&y2)&&y3)&&(!decide (a0.2.1=a0.2.2.1)))&&y4) (s_l1In a0.2.2.2.2.1 0 600) (fun y5=>gb (((((y1&&y2)&&y3)&&(!decide (a0.2.1=a0.2.2.1)))&&y4)&&y5) (s_CmdOk (a0.2.2.2.2.2.1.1,a0.2.2.2.2.2.1.2.1,a0.2.2.2.2.2.1.2.2.1,a0.2.2.2.2.2.1.2.2.2.1,a0.2.2.2.2.2.1.2.2.2.2.1,a0.2.2.2.2.2.1.2.2.2.2.2.1,a0.2.2.2.2.2.1.2.2.2.2.2.2.1,a0.2.2.2.2.2.1.2.2.2.2.2.2.2)) (fun y6=>gb ((((((y1&&y2)&&y3)&&(!decide (a0.2.1=a0.2.2.1)))&&y4)&&y5)&&y6) (s_l1In a0.2.2.2.2.2.2.1 0 60) (fun y7=>gb (((((((y1&&y2)&&y3)&&(!decide (a0.2.1=a0.2.2.1)))&&y4)&&y5)&&y6)&&y7) (s_IdsOk a0.2.2.2.2.2.2.2.1) (fun y8=>gb ((((((((y1&&y2)&&y3)&&(!decide (a0.2.1=a0.2.2.1)))&&y4)&&y5)&&y6)&&y7)&&y8) (s_l8Has a0.2.2.2.2.2.2.2.1 (a0.2.2.2.1.1,a0.2.2.2.1.2)) (fun y9=>gb (((((((((y1&&y2)&&y3)&&(!decide (a0.2.1=a0.2.2.1)))&&y4)&&y5)&&y6)&&y7)&&y8)&&(!y9)) (s_l1In a0.2.2.2.2.2.2.2.2.1 0 3) (fun y10=>gb ((((((((((y1&&y2)&&y3)&&(!decide (a0.2.1=a0.2.2.1)))&&y4)&&y5)&&y6)&&y7)&&y8)&&(!y9))&&y10) (s_l1In a0.2.2.2.2.2.2.2.2.2.1 (-1) 600) (fun y11=>some (((((((((((y1&&y2)&&y3)&&(!decide (a0.2.1=a0.2.2.1)))&&y4)&&y5)&&y6)&&y7)&&y8)&&(!y9))&&y10)&&y11))))))))))))
theorem s_EMsgOk_walk (w:World) (a0:T_EMsg) (h0:GT.rd w [] a0) (r:Bool) (hp:s_EMsgOk (GT.dat a0)=some r):Spec Tryz.prog 88 [.agg (GT.cells a0).toArray].toArray w [] (IsV (.bool r)):=by
 obtain ⟨a0_1,a0_2,a0_3,⟨a0_4,a0_5⟩,a0_6,⟨a0_7,a0_8,a0_9,a0_10,a0_11,a0_12,a0_13,a0_14⟩,a0_15,a0_16,a0_17,a0_18,a0_19⟩:=a0
 change Spec _ _ ([Value.agg #[.int .i64 a0_1,.int .i64 a0_2,.int .i64 a0_3,.int .i64 a0_4,.int .i64 a0_5,.int .i64 a0_6,.int .i64 a0_7,.int .i64 a0_8,.int .i64 a0_9,.string a0_10,.string a0_11,.string a0_12,.int .i64 a0_13,(TL.hdr a0_14),.int .i64 a0_15,(TL.hdr a0_16),.int .i64 a0_17,.int .i64 a0_18,.bool a0_19]]:List Value).toArray w [] _
 refine Spec.intro Tryz.func88 rfl Tryz.ntmps88 rfl ?_
 unfold s_EMsgOk at hp
 try dsimp only [dat_pair,dat_int,dat_bool,dat_str,dat_ar] at hp
 refine W_seq ?_
 refine W_region ?_
 refine L_box rfl rfl (fun bk1=>?_)
 refine L_assign rfl rfl ?_
 refine L_nil ?_
 refine W_seq ?_
 have ho:=hp;clear hp;obtain ⟨y1,hy1,hp⟩:=bind_any ho;clear ho
 have ho:=hp;clear hp;obtain ⟨y2,hy2,hp⟩:=gb_any ho;clear ho
 have ho:=hp;clear hp;obtain ⟨y3,hy3,hp⟩:=gb_any ho;clear ho
 have ho:=hp;clear hp;obtain ⟨y4,hy4,hp⟩:=gb_any ho;clear ho
 have ho:=hp;clear hp;obtain ⟨y5,hy5,hp⟩:=gb_any ho;clear ho
 have ho:=hp;clear hp;obtain ⟨y6,hy6,hp⟩:=gb_any ho;clear ho
 have ho:=hp;clear hp;obtain ⟨y7,hy7,hp⟩:=gb_any ho;clear ho
 have ho:=hp;clear hp;obtain ⟨y8,hy8,hp⟩:=gb_any ho;clear ho
 have ho:=hp;clear hp;obtain ⟨y9,hy9,hp⟩:=gb_any ho;clear ho
 have ho:=hp;clear hp;obtain ⟨y10,hy10,hp⟩:=gb_any ho;clear ho
 have ho:=hp;clear hp;obtain ⟨y11,hy11,hp⟩:=gb_any ho;clear ho
 refine W_D0 [2] mix (by kernel_rfl) rfl ?_
 refine D_fieldAddr GC.none (OpV.t rfl) fld136_0.h ?_
 refine D_load GC.none (OpV.t rfl) (fun hg=>RdC.blk (by first | (with_reducible repeat (first | exact List.Mem.head _ | apply List.Mem.tail));done | (repeat (first | exact List.Mem.head _ | apply List.Mem.tail)))) one3.h rfl ?_
 refine D_callX GC.none fn63.h (OpVs.cons (OpV.t rfl) (OpVs.cons OpV.c (OpVs.cons OpV.c (OpVs.nil)))) (by exact fun hg w F hF hM=>s_l1In_walk w a0_1 1 7  _ hy1) ?_
 refine D_move GC.none (OpV.t rfl) ?_
 refine D_fieldAddr (GC.some rfl rfl) (OpV.t rfl) fld136_1.h ?_
 refine D_load (GC.some rfl rfl) (OpV.s rfl) (fun hg=>RdC.blk (by first | (with_reducible repeat (first | exact List.Mem.head _ | apply List.Mem.tail));done | (repeat (first | exact List.Mem.head _ | apply List.Mem.tail)))) one3.h rfl ?_
 refine D_callX (GC.some rfl rfl) fn62.h (OpVs.cons (OpV.s rfl) (OpVs.nil)) (by exact fun hg w F hF hM=>s_l9Node_walk w a0_2  _ (hy2 hg.2)) ?_
 refine D_and (cy:=_) GC.none (OpV.t rfl) (OpV.s rfl) (fun h hb=>⟨h,hb⟩) ?_
 refine D_move GC.none (OpV.t rfl) ?_
 refine D_fieldAddr (GC.some rfl rfl) (OpV.t rfl) fld136_2.h ?_
 refine D_load (GC.some rfl rfl) (OpV.s rfl) (fun hg=>RdC.blk (by first | (with_reducible repeat (first | exact List.Mem.head _ | apply List.Mem.tail));done | (repeat (first | exact List.Mem.head _ | apply List.Mem.tail)))) one3.h rfl ?_
 refine D_callX (GC.some rfl rfl) fn62.h (OpVs.cons (OpV.s rfl) (OpVs.nil)) (by exact fun hg w F hF hM=>s_l9Node_walk w a0_3  _ (hy3 hg.2)) ?_
 refine D_and (cy:=_) GC.none (OpV.t rfl) (OpV.s rfl) (fun h hb=>⟨h,hb⟩) ?_
 refine D_move GC.none (OpV.t rfl) ?_
 refine D_fieldAddr (GC.some rfl rfl) (OpV.t rfl) fld136_1.h ?_
 refine D_load (GC.some rfl rfl) (OpV.s rfl) (fun hg=>RdC.blk (by first | (with_reducible repeat (first | exact List.Mem.head _ | apply List.Mem.tail));done | (repeat (first | exact List.Mem.head _ | apply List.Mem.tail)))) one3.h rfl ?_
 refine D_fieldAddr (GC.some rfl rfl) (OpV.t rfl) fld136_2.h ?_
 refine D_load (GC.some rfl rfl) (OpV.s rfl) (fun hg=>RdC.blk (by first | (with_reducible repeat (first | exact List.Mem.head _ | apply List.Mem.tail));done | (repeat (first | exact List.Mem.head _ | apply List.Mem.tail)))) one3.h rfl ?_
 refine D_bin (GC.some rfl rfl) (OpV.s rfl) (OpV.s rfl) (fun hg=>bv_neq) ?_
 refine D_and (cy:=_) GC.none (OpV.t rfl) (OpV.s rfl) (fun h hb=>⟨h,hb⟩) ?_
 refine D_move GC.none (OpV.t rfl) ?_
 refine D_fieldAddr (GC.some rfl rfl) (OpV.t rfl) fld136_3.h ?_
 refine D_loadW (GC.some rfl rfl) (OpV.s rfl) (fun hg=>RdC.seg (RdC.blk (by first | (with_reducible repeat (first | exact List.Mem.head _ | apply List.Mem.tail));done | (repeat (first | exact List.Mem.head _ | apply List.Mem.tail)))) 3 2 rfl) (by exact agg92.h) ?_
 refine D_callX (GC.some rfl rfl) fn109.h (OpVs.cons (OpV.s rfl) (OpVs.nil)) (by exact fun hg w F hF hM=>s_l8Id_walk w (a0_4,a0_5) (RdT.nowS (RdT.pair RdT.int RdT.int) hF hM) _ (hy4 hg.2)) ?_
 refine D_and (cy:=_) GC.none (OpV.t rfl) (OpV.s rfl) (fun h hb=>⟨h,hb⟩) ?_
 refine D_move GC.none (OpV.t rfl) ?_
 refine D_fieldAddr (GC.some rfl rfl) (OpV.t rfl) fld136_4.h ?_
 refine D_load (GC.some rfl rfl) (OpV.s rfl) (fun hg=>RdC.blk (by first | (with_reducible repeat (first | exact List.Mem.head _ | apply List.Mem.tail));done | (repeat (first | exact List.Mem.head _ | apply List.Mem.tail)))) one3.h rfl ?_
 refine D_callX (GC.some rfl rfl) fn63.h (OpVs.cons (OpV.s rfl) (OpVs.cons OpV.c (OpVs.cons OpV.c (OpVs.nil)))) (by exact fun hg w F hF hM=>s_l1In_walk w a0_6 0 600  _ (hy5 hg.2)) ?_
 refine D_and (cy:=_) GC.none (OpV.t rfl) (OpV.s rfl) (fun h hb=>⟨h,hb⟩) ?_
 refine D_move GC.none (OpV.t rfl) ?_
 refine D_fieldAddr (GC.some rfl rfl) (OpV.t rfl) fld136_5.h ?_
 refine D_loadW (GC.some rfl rfl) (OpV.s rfl) (fun hg=>RdC.seg (RdC.blk (by first | (with_reducible repeat (first | exact List.Mem.head _ | apply List.Mem.tail));done | (repeat (first | exact List.Mem.head _ | apply List.Mem.tail)))) 6 8 rfl) (by exact agg69.h) ?_
 refine D_callX (GC.some rfl rfl) fn113.h (OpVs.cons (OpV.s rfl) (OpVs.nil)) (by exact fun hg w F hF hM=>s_CmdOk_walk w (a0_7,a0_8,a0_9,a0_10,a0_11,a0_12,a0_13,a0_14) (RdT.nowS (RdT.pair RdT.int (RdT.pair RdT.int (RdT.pair RdT.int (RdT.pair RdT.str (RdT.pair RdT.str (RdT.pair RdT.str (RdT.pair RdT.int (RdT.old h0.2.2.2.2.2.1.2.2.2.2.2.2.2)))))))) hF hM) _ (hy6 hg.2)) ?_
 refine D_and (cy:=_) GC.none (OpV.t rfl) (OpV.s rfl) (fun h hb=>⟨h,hb⟩) ?_
 refine D_move GC.none (OpV.t rfl) ?_
 refine D_fieldAddr (GC.some rfl rfl) (OpV.t rfl) fld136_6.h ?_
 refine D_load (GC.some rfl rfl) (OpV.s rfl) (fun hg=>RdC.blk (by first | (with_reducible repeat (first | exact List.Mem.head _ | apply List.Mem.tail));done | (repeat (first | exact List.Mem.head _ | apply List.Mem.tail)))) one3.h rfl ?_
 refine D_callX (GC.some rfl rfl) fn63.h (OpVs.cons (OpV.s rfl) (OpVs.cons OpV.c (OpVs.cons OpV.c (OpVs.nil)))) (by exact fun hg w F hF hM=>s_l1In_walk w a0_15 0 60  _ (hy7 hg.2)) ?_
 refine D_and (cy:=_) GC.none (OpV.t rfl) (OpV.s rfl) (fun h hb=>⟨h,hb⟩) ?_
 refine D_move GC.none (OpV.t rfl) ?_
 refine D_fieldAddr (GC.some rfl rfl) (OpV.t rfl) fld136_7.h ?_
 refine D_load (GC.some rfl rfl) (OpV.s rfl) (fun hg=>RdC.blk (by first | (with_reducible repeat (first | exact List.Mem.head _ | apply List.Mem.tail));done | (repeat (first | exact List.Mem.head _ | apply List.Mem.tail)))) one85.h rfl ?_
 refine D_callX (GC.some rfl rfl) fn110.h (OpVs.cons (OpV.s rfl) (OpVs.nil)) (by exact fun hg w F hF hM=>s_IdsOk_walk w a0_16 (RdT.nowS (RdT.old h0.2.2.2.2.2.2.2.1) hF hM) _ (hy8 hg.2)) ?_
 refine D_and (cy:=_) GC.none (OpV.t rfl) (OpV.s rfl) (fun h hb=>⟨h,hb⟩) ?_
 refine D_move GC.none (OpV.t rfl) ?_
 refine D_fieldAddr (GC.some rfl rfl) (OpV.t rfl) fld136_7.h ?_
 refine D_load (GC.some rfl rfl) (OpV.s rfl) (fun hg=>RdC.blk (by first | (with_reducible repeat (first | exact List.Mem.head _ | apply List.Mem.tail));done | (repeat (first | exact List.Mem.head _ | apply List.Mem.tail)))) one85.h rfl ?_
 refine D_fieldAddr (GC.some rfl rfl) (OpV.t rfl) fld136_3.h ?_
 refine D_loadW (GC.some rfl rfl) (OpV.s rfl) (fun hg=>RdC.seg (RdC.blk (by first | (with_reducible repeat (first | exact List.Mem.head _ | apply List.Mem.tail));done | (repeat (first | exact List.Mem.head _ | apply List.Mem.tail)))) 3 2 rfl) (by exact agg92.h) ?_
 refine D_callX (GC.some rfl rfl) fn90.h (OpVs.cons (OpV.s rfl) (OpVs.cons (OpV.s rfl) (OpVs.nil))) (by exact fun hg w F hF hM=>s_l8Has_walk w a0_16 (a0_4,a0_5) (RdT.nowS (RdT.old h0.2.2.2.2.2.2.2.1) hF hM) (RdT.nowS (RdT.pair RdT.int RdT.int) hF hM) _ (hy9 hg.2)) ?_
 refine D_not (GC.some rfl rfl) (OpV.s rfl) ?_
 refine D_and (cy:=_) GC.none (OpV.t rfl) (OpV.s rfl) (fun h hb=>⟨h,hb⟩) ?_
 refine D_move GC.none (OpV.t rfl) ?_
 refine D_fieldAddr (GC.some rfl rfl) (OpV.t rfl) fld136_8.h ?_
 refine D_load (GC.some rfl rfl) (OpV.s rfl) (fun hg=>RdC.blk (by first | (with_reducible repeat (first | exact List.Mem.head _ | apply List.Mem.tail));done | (repeat (first | exact List.Mem.head _ | apply List.Mem.tail)))) one3.h rfl ?_
 refine D_callX (GC.some rfl rfl) fn63.h (OpVs.cons (OpV.s rfl) (OpVs.cons OpV.c (OpVs.cons OpV.c (OpVs.nil)))) (by exact fun hg w F hF hM=>s_l1In_walk w a0_17 0 3  _ (hy10 hg.2)) ?_
 refine D_and (cy:=_) GC.none (OpV.t rfl) (OpV.s rfl) (fun h hb=>⟨h,hb⟩) ?_
 refine D_move GC.none (OpV.t rfl) ?_
 refine D_fieldAddr (GC.some rfl rfl) (OpV.t rfl) fld136_9.h ?_
 refine D_load (GC.some rfl rfl) (OpV.s rfl) (fun hg=>RdC.blk (by first | (with_reducible repeat (first | exact List.Mem.head _ | apply List.Mem.tail));done | (repeat (first | exact List.Mem.head _ | apply List.Mem.tail)))) one3.h rfl ?_
 refine D_callX (GC.some rfl rfl) fn63.h (OpVs.cons (OpV.s rfl) (OpVs.cons OpV.c (OpVs.cons OpV.c (OpVs.nil)))) (by exact fun hg w F hF hM=>s_l1In_walk w a0_18 (-1) 600  _ (hy11 hg.2)) ?_
 refine D_and (cy:=_) GC.none (OpV.t rfl) (OpV.s rfl) (fun h hb=>⟨h,hb⟩) ?_
 refine D_assign GC.none (OpV.t rfl) ?_
 refine DV_nil ?_
 refine Give_is rfl rfl ?_
 refine Give_drop rfl ?_
 refine Give_drop rfl ?_
 refine Give_drop rfl ?_
 refine Give_drop rfl ?_
 refine Give_drop rfl ?_
 refine Give_drop rfl ?_
 refine Give_drop rfl ?_
 refine Give_drop rfl ?_
 refine Give_drop rfl ?_
 refine Give_drop rfl ?_
 refine Give_drop rfl ?_
 refine Give_drop rfl ?_
 refine Give_drop rfl ?_
 refine Give_drop rfl ?_
 refine Give_drop rfl ?_
 refine Give_drop rfl ?_
 refine Give_drop rfl ?_
 refine Give_drop rfl ?_
 refine Give_drop rfl ?_
 refine Give_drop rfl ?_
 refine Give_drop rfl ?_
 refine Give_drop rfl ?_
 refine Give_drop rfl ?_
 refine Give_drop rfl ?_
 refine Give_drop rfl ?_
 refine Give_drop rfl ?_
 refine Give_drop rfl ?_
 refine Give_drop rfl ?_
 refine Give_drop rfl ?_
 refine Give_drop rfl ?_
 refine Give_drop rfl ?_
 refine Give_drop rfl ?_
 refine Give_drop rfl ?_
 refine Give_drop rfl ?_
 refine Give_drop rfl ?_
 refine Give_drop rfl ?_
 refine Give_drop rfl ?_
 refine Give_drop rfl ?_
 refine Give_drop rfl ?_
 refine Give_drop rfl ?_
 refine Give_drop rfl ?_
 refine Give_drop rfl ?_
 refine Give_drop rfl ?_
 refine Give_drop rfl ?_
 refine Give_drop rfl ?_
 refine Give_drop rfl ?_
 refine Give_drop rfl ?_
 refine Give_drop rfl ?_
 refine Give_drop rfl ?_
 refine Give_drop rfl ?_
 refine Give_drop rfl ?_
 refine Give_drop rfl ?_
 refine Give_drop rfl ?_
 refine Give_drop rfl ?_
 refine Give_drop rfl ?_
 refine Give_drop rfl ?_
 refine Give_drop rfl ?_
 refine Give_drop rfl ?_
 refine Give_drop rfl ?_
 refine Give_drop rfl ?_
 refine Give_drop rfl ?_
 refine Give_drop rfl ?_
 refine Give_drop rfl ?_
 refine Give_nil ?_
 obtain rfl:=sj hp
 refine W_ret ?_
 refine res1 rfl (ResOK.tmp rfl) ⟨rfl,rfl⟩ (MSub.nil _)
noncomputable def s_l9Alike (a0:List D_Id) (a1:List D_Id):Option Bool :=
 cond (!decide ((a0.length:Int)=(a1.length:Int))) (some false) (whileP (fun s2:Int=>cond (decide (s2 < (a0.length:Int))) (Option.bind (idx a0 s2) (fun y4=>Option.bind (idx a1 s2) (fun y5=>cond (!(decide (y4.1=y5.1)&&(decide (y4.2=y5.2)&&true))) (Option.map .inr (some false)) (some (.inl (IntKind.wrap .i64 (s2+1))))))) (Option.map .inr (some true))) 0)
theorem s_l9Alike_walk (w:World) (a0:TL T_Id) (a1:TL T_Id) (h0:GT.rd w [] a0) (h1:GT.rd w [] a1) (r:Bool) (hp:s_l9Alike (GT.dat a0) (GT.dat a1)=some r):Spec Tryz.prog 202 [(TL.hdr a0),(TL.hdr a1)].toArray w [] (IsV (.bool r)):=by
 refine Spec.intro Tryz.func202 rfl Tryz.ntmps202 rfl ?_
 unfold s_l9Alike at hp
 replace hp:=dd hp
 refine s13 ?_
 refine kp [0,1,10] ?_
 refine W_cond rfl (fun q1=>?_) (fun q1=>?_)
 ·replace hp:=cond_t q1 hp
  refine s4 ?_
  obtain rfl:=sj hp
  refine s1 ?_
  refine res1 rfl (ResOK.tmp rfl) ⟨rfl,rfl⟩ ms
 ·replace hp:=cond_f q1 hp
  refine s7 ?_
  refine W_while (σ:=Int) GT.dat (fun (v2_0:Int)=>[(5,.int .i64 v2_0)]) (fun (v2_0:Int)=>[]) [(0,_),(1,_)] [] 0 hp sb ms ?_
  clear hp
  rintro v2_0 x2 hp hx2
  replace hp:=dd hp
  refine kq [0,1,5] ?_
  refine s8 ?_
  refine kp [0,1,5,14] ?_
  refine W_cond rfl (fun q3=>?_) (fun q3=>?_)
  ·replace hp:=cond_t q3 hp
   refine s4 ?_
   replace hp:=idx_bind hp;obtain ⟨⟨u4_1,u4_2⟩,hy4,hp⟩:=hp
   replace hp:=idx_bind hp;obtain ⟨⟨u5_1,u5_2⟩,hy5,hp⟩:=hp
   refine W_D0 [25] mix (by kernel_rfl) rfl ?_
   refine s2 ?_
   refine D_idxA (X:=a0) GC.none (OpV.t rfl) (OpV.t rfl) el85.h (RdT.old h0) (fun _=>hy4) ?_
   refine D_loadW GC.none (OpV.t rfl) (fun hg=>RdT.at (RdT.old h0) (hy4).2) (by exact agg92.h) ?_
   refine s2 ?_
   refine D_idxA (X:=a1) GC.none (OpV.t rfl) (OpV.t rfl) el85.h (RdT.old h1) (fun _=>hy5) ?_
   refine D_loadW GC.none (OpV.t rfl) (fun hg=>RdT.at (RdT.old h1) (hy5).2) (by exact agg92.h) ?_
   refine D_bin GC.none (OpV.t rfl) (OpV.t rfl) (fun hg=>(bv_aneq eqsh92 (EqS.consI one3.h und3.h rfl rfl (EqS.consI one3.h und3.h rfl rfl EqS.nil)))) ?_
   refine s11 ?_
   refine kp [0,1,5,25] ?_
   refine W_cond rfl (fun q6=>?_) (fun q6=>?_)
   ·replace hp:=cond_t q6 hp
    refine s4 ?_
    replace hp:=map_any hp;obtain ⟨a7,hp,z_7⟩:=hp
    obtain rfl:=hx2 _ z_7
    obtain rfl:=sj hp
    refine s1 ?_
    refine res1 rfl (ResOK.tmp rfl) ⟨rfl,rfl⟩ ms
   ·replace hp:=cond_f q6 hp
    refine s6 ?_
    exact ⟨IntKind.wrap .i64 (v2_0+1),sb,(.sub ms),some_eq hp⟩
  ·replace hp:=cond_f q3 hp
   refine W_exit ?_
   replace hp:=map_any hp;obtain ⟨a8,hp,z_8⟩:=hp
   obtain rfl:=hx2 _ z_8
   refine s4 ?_
   obtain rfl:=sj hp
   refine s1 ?_
   refine res1 rfl (ResOK.tmp rfl) ⟨rfl,rfl⟩ ms
noncomputable def s_SameMsg (a0:D_EMsg) (a1:D_EMsg):Option Bool :=
 gb (((((decide (a0.1=a1.1))&&(decide (a0.2.1=a1.2.1)))&&(decide (a0.2.2.1=a1.2.2.1)))&&(decide (a0.2.2.2.1.1=a1.2.2.2.1.1)&&(decide (a0.2.2.2.1.2=a1.2.2.2.1.2)&&true)))&&(decide (a0.2.2.2.2.1=a1.2.2.2.2.1))) (s_SameCmd (a0.2.2.2.2.2.1.1,a0.2.2.2.2.2.1.2.1,a0.2.2.2.2.2.1.2.2.1,a0.2.2.2.2.2.1.2.2.2.1,a0.2.2.2.2.2.1.2.2.2.2.1,a0.2.2.2.2.2.1.2.2.2.2.2.1,a0.2.2.2.2.2.1.2.2.2.2.2.2.1,a0.2.2.2.2.2.1.2.2.2.2.2.2.2) (a1.2.2.2.2.2.1.1,a1.2.2.2.2.2.1.2.1,a1.2.2.2.2.2.1.2.2.1,a1.2.2.2.2.2.1.2.2.2.1,a1.2.2.2.2.2.1.2.2.2.2.1,a1.2.2.2.2.2.1.2.2.2.2.2.1,a1.2.2.2.2.2.1.2.2.2.2.2.2.1,a1.2.2.2.2.2.1.2.2.2.2.2.2.2)) (fun y1=>gb (((((((decide (a0.1=a1.1))&&(decide (a0.2.1=a1.2.1)))&&(decide (a0.2.2.1=a1.2.2.1)))&&(decide (a0.2.2.2.1.1=a1.2.2.2.1.1)&&(decide (a0.2.2.2.1.2=a1.2.2.2.1.2)&&true)))&&(decide (a0.2.2.2.2.1=a1.2.2.2.2.1)))&&y1)&&(decide (a0.2.2.2.2.2.2.1=a1.2.2.2.2.2.2.1))) (s_l9Alike a0.2.2.2.2.2.2.2.1 a1.2.2.2.2.2.2.2.1) (fun y2=>some (((((((((((decide (a0.1=a1.1))&&(decide (a0.2.1=a1.2.1)))&&(decide (a0.2.2.1=a1.2.2.1)))&&(decide (a0.2.2.2.1.1=a1.2.2.2.1.1)&&(decide (a0.2.2.2.1.2=a1.2.2.2.1.2)&&true)))&&(decide (a0.2.2.2.2.1=a1.2.2.2.2.1)))&&y1)&&(decide (a0.2.2.2.2.2.2.1=a1.2.2.2.2.2.2.1)))&&y2)&&(decide (a0.2.2.2.2.2.2.2.2.1=a1.2.2.2.2.2.2.2.2.1)))&&(decide (a0.2.2.2.2.2.2.2.2.2.1=a1.2.2.2.2.2.2.2.2.2.1)))&&(a0.2.2.2.2.2.2.2.2.2.2 == a1.2.2.2.2.2.2.2.2.2.2))))
theorem s_SameMsg_walk (w:World) (a0:T_EMsg) (a1:T_EMsg) (h0:GT.rd w [] a0) (h1:GT.rd w [] a1) (r:Bool) (hp:s_SameMsg (GT.dat a0) (GT.dat a1)=some r):Spec Tryz.prog 141 [.agg (GT.cells a0).toArray,.agg (GT.cells a1).toArray].toArray w [] (IsV (.bool r)):=by
 obtain ⟨a0_1,a0_2,a0_3,⟨a0_4,a0_5⟩,a0_6,⟨a0_7,a0_8,a0_9,a0_10,a0_11,a0_12,a0_13,a0_14⟩,a0_15,a0_16,a0_17,a0_18,a0_19⟩:=a0
 obtain ⟨a1_1,a1_2,a1_3,⟨a1_4,a1_5⟩,a1_6,⟨a1_7,a1_8,a1_9,a1_10,a1_11,a1_12,a1_13,a1_14⟩,a1_15,a1_16,a1_17,a1_18,a1_19⟩:=a1
 change Spec _ _ ([Value.agg #[.int .i64 a0_1,.int .i64 a0_2,.int .i64 a0_3,.int .i64 a0_4,.int .i64 a0_5,.int .i64 a0_6,.int .i64 a0_7,.int .i64 a0_8,.int .i64 a0_9,.string a0_10,.string a0_11,.string a0_12,.int .i64 a0_13,(TL.hdr a0_14),.int .i64 a0_15,(TL.hdr a0_16),.int .i64 a0_17,.int .i64 a0_18,.bool a0_19],Value.agg #[.int .i64 a1_1,.int .i64 a1_2,.int .i64 a1_3,.int .i64 a1_4,.int .i64 a1_5,.int .i64 a1_6,.int .i64 a1_7,.int .i64 a1_8,.int .i64 a1_9,.string a1_10,.string a1_11,.string a1_12,.int .i64 a1_13,(TL.hdr a1_14),.int .i64 a1_15,(TL.hdr a1_16),.int .i64 a1_17,.int .i64 a1_18,.bool a1_19]]:List Value).toArray w [] _
 refine Spec.intro Tryz.func141 rfl Tryz.ntmps141 rfl ?_
 unfold s_SameMsg at hp
 try dsimp only [dat_pair,dat_int,dat_bool,dat_str,dat_ar] at hp
 refine W_seq ?_
 refine W_region ?_
 refine L_box rfl rfl (fun bk2=>?_)
 refine L_box rfl rfl (fun bk3=>?_)
 refine L_assign rfl rfl ?_
 refine L_nil ?_
 refine W_seq ?_
 have ho:=hp;clear hp;obtain ⟨y1,hy1,hp⟩:=gb_any ho;clear ho
 have ho:=hp;clear hp;obtain ⟨y2,hy2,hp⟩:=gb_any ho;clear ho
 refine W_D0 [4] mix (by kernel_rfl) rfl ?_
 refine D_fieldAddr GC.none (OpV.t rfl) fld136_0.h ?_
 refine D_load GC.none (OpV.t rfl) (fun hg=>RdC.blk (by first | (with_reducible repeat (first | exact List.Mem.head _ | apply List.Mem.tail));done | (repeat (first | exact List.Mem.head _ | apply List.Mem.tail)))) one3.h rfl ?_
 refine D_fieldAddr GC.none (OpV.t rfl) fld136_0.h ?_
 refine D_load GC.none (OpV.t rfl) (fun hg=>RdC.blk (by first | (with_reducible repeat (first | exact List.Mem.head _ | apply List.Mem.tail));done | (repeat (first | exact List.Mem.head _ | apply List.Mem.tail)))) one3.h rfl ?_
 refine D_bin GC.none (OpV.t rfl) (OpV.t rfl) (fun hg=>bv_eql) ?_
 refine D_move GC.none (OpV.t rfl) ?_
 refine D_fieldAddr (GC.some rfl rfl) (OpV.t rfl) fld136_1.h ?_
 refine D_load (GC.some rfl rfl) (OpV.s rfl) (fun hg=>RdC.blk (by first | (with_reducible repeat (first | exact List.Mem.head _ | apply List.Mem.tail));done | (repeat (first | exact List.Mem.head _ | apply List.Mem.tail)))) one3.h rfl ?_
 refine D_fieldAddr (GC.some rfl rfl) (OpV.t rfl) fld136_1.h ?_
 refine D_load (GC.some rfl rfl) (OpV.s rfl) (fun hg=>RdC.blk (by first | (with_reducible repeat (first | exact List.Mem.head _ | apply List.Mem.tail));done | (repeat (first | exact List.Mem.head _ | apply List.Mem.tail)))) one3.h rfl ?_
 refine D_bin (GC.some rfl rfl) (OpV.s rfl) (OpV.s rfl) (fun hg=>bv_eql) ?_
 refine D_and (cy:=_) GC.none (OpV.t rfl) (OpV.s rfl) (fun h hb=>⟨h,hb⟩) ?_
 refine D_move GC.none (OpV.t rfl) ?_
 refine D_fieldAddr (GC.some rfl rfl) (OpV.t rfl) fld136_2.h ?_
 refine D_load (GC.some rfl rfl) (OpV.s rfl) (fun hg=>RdC.blk (by first | (with_reducible repeat (first | exact List.Mem.head _ | apply List.Mem.tail));done | (repeat (first | exact List.Mem.head _ | apply List.Mem.tail)))) one3.h rfl ?_
 refine D_fieldAddr (GC.some rfl rfl) (OpV.t rfl) fld136_2.h ?_
 refine D_load (GC.some rfl rfl) (OpV.s rfl) (fun hg=>RdC.blk (by first | (with_reducible repeat (first | exact List.Mem.head _ | apply List.Mem.tail));done | (repeat (first | exact List.Mem.head _ | apply List.Mem.tail)))) one3.h rfl ?_
 refine D_bin (GC.some rfl rfl) (OpV.s rfl) (OpV.s rfl) (fun hg=>bv_eql) ?_
 refine D_and (cy:=_) GC.none (OpV.t rfl) (OpV.s rfl) (fun h hb=>⟨h,hb⟩) ?_
 refine D_move GC.none (OpV.t rfl) ?_
 refine D_fieldAddr (GC.some rfl rfl) (OpV.t rfl) fld136_3.h ?_
 refine D_loadW (GC.some rfl rfl) (OpV.s rfl) (fun hg=>RdC.seg (RdC.blk (by first | (with_reducible repeat (first | exact List.Mem.head _ | apply List.Mem.tail));done | (repeat (first | exact List.Mem.head _ | apply List.Mem.tail)))) 3 2 rfl) (by exact agg92.h) ?_
 refine D_fieldAddr (GC.some rfl rfl) (OpV.t rfl) fld136_3.h ?_
 refine D_loadW (GC.some rfl rfl) (OpV.s rfl) (fun hg=>RdC.seg (RdC.blk (by first | (with_reducible repeat (first | exact List.Mem.head _ | apply List.Mem.tail));done | (repeat (first | exact List.Mem.head _ | apply List.Mem.tail)))) 3 2 rfl) (by exact agg92.h) ?_
 refine D_bin (GC.some rfl rfl) (OpV.s rfl) (OpV.s rfl) (fun hg=>(bv_aeql eqsh92 (EqS.consI one3.h und3.h rfl rfl (EqS.consI one3.h und3.h rfl rfl EqS.nil)))) ?_
 refine D_and (cy:=_) GC.none (OpV.t rfl) (OpV.s rfl) (fun h hb=>⟨h,hb⟩) ?_
 refine D_move GC.none (OpV.t rfl) ?_
 refine D_fieldAddr (GC.some rfl rfl) (OpV.t rfl) fld136_4.h ?_
 refine D_load (GC.some rfl rfl) (OpV.s rfl) (fun hg=>RdC.blk (by first | (with_reducible repeat (first | exact List.Mem.head _ | apply List.Mem.tail));done | (repeat (first | exact List.Mem.head _ | apply List.Mem.tail)))) one3.h rfl ?_
 refine D_fieldAddr (GC.some rfl rfl) (OpV.t rfl) fld136_4.h ?_
 refine D_load (GC.some rfl rfl) (OpV.s rfl) (fun hg=>RdC.blk (by first | (with_reducible repeat (first | exact List.Mem.head _ | apply List.Mem.tail));done | (repeat (first | exact List.Mem.head _ | apply List.Mem.tail)))) one3.h rfl ?_
 refine D_bin (GC.some rfl rfl) (OpV.s rfl) (OpV.s rfl) (fun hg=>bv_eql) ?_
 refine D_and (cy:=_) GC.none (OpV.t rfl) (OpV.s rfl) (fun h hb=>⟨h,hb⟩) ?_
 refine D_move GC.none (OpV.t rfl) ?_
 refine D_fieldAddr (GC.some rfl rfl) (OpV.t rfl) fld136_5.h ?_
 refine D_loadW (GC.some rfl rfl) (OpV.s rfl) (fun hg=>RdC.seg (RdC.blk (by first | (with_reducible repeat (first | exact List.Mem.head _ | apply List.Mem.tail));done | (repeat (first | exact List.Mem.head _ | apply List.Mem.tail)))) 6 8 rfl) (by exact agg69.h) ?_
 refine D_fieldAddr (GC.some rfl rfl) (OpV.t rfl) fld136_5.h ?_
 refine D_loadW (GC.some rfl rfl) (OpV.s rfl) (fun hg=>RdC.seg (RdC.blk (by first | (with_reducible repeat (first | exact List.Mem.head _ | apply List.Mem.tail));done | (repeat (first | exact List.Mem.head _ | apply List.Mem.tail)))) 6 8 rfl) (by exact agg69.h) ?_
 refine D_callX (GC.some rfl rfl) fn173.h (OpVs.cons (OpV.s rfl) (OpVs.cons (OpV.s rfl) (OpVs.nil))) (by exact fun hg w F hF hM=>s_SameCmd_walk w (a0_7,a0_8,a0_9,a0_10,a0_11,a0_12,a0_13,a0_14) (a1_7,a1_8,a1_9,a1_10,a1_11,a1_12,a1_13,a1_14) (RdT.nowS (RdT.pair RdT.int (RdT.pair RdT.int (RdT.pair RdT.int (RdT.pair RdT.str (RdT.pair RdT.str (RdT.pair RdT.str (RdT.pair RdT.int (RdT.old h0.2.2.2.2.2.1.2.2.2.2.2.2.2)))))))) hF hM) (RdT.nowS (RdT.pair RdT.int (RdT.pair RdT.int (RdT.pair RdT.int (RdT.pair RdT.str (RdT.pair RdT.str (RdT.pair RdT.str (RdT.pair RdT.int (RdT.old h1.2.2.2.2.2.1.2.2.2.2.2.2.2)))))))) hF hM) _ (hy1 hg.2)) ?_
 refine D_and (cy:=_) GC.none (OpV.t rfl) (OpV.s rfl) (fun h hb=>⟨h,hb⟩) ?_
 refine D_move GC.none (OpV.t rfl) ?_
 refine D_fieldAddr (GC.some rfl rfl) (OpV.t rfl) fld136_6.h ?_
 refine D_load (GC.some rfl rfl) (OpV.s rfl) (fun hg=>RdC.blk (by first | (with_reducible repeat (first | exact List.Mem.head _ | apply List.Mem.tail));done | (repeat (first | exact List.Mem.head _ | apply List.Mem.tail)))) one3.h rfl ?_
 refine D_fieldAddr (GC.some rfl rfl) (OpV.t rfl) fld136_6.h ?_
 refine D_load (GC.some rfl rfl) (OpV.s rfl) (fun hg=>RdC.blk (by first | (with_reducible repeat (first | exact List.Mem.head _ | apply List.Mem.tail));done | (repeat (first | exact List.Mem.head _ | apply List.Mem.tail)))) one3.h rfl ?_
 refine D_bin (GC.some rfl rfl) (OpV.s rfl) (OpV.s rfl) (fun hg=>bv_eql) ?_
 refine D_and (cy:=_) GC.none (OpV.t rfl) (OpV.s rfl) (fun h hb=>⟨h,hb⟩) ?_
 refine D_move GC.none (OpV.t rfl) ?_
 refine D_fieldAddr (GC.some rfl rfl) (OpV.t rfl) fld136_7.h ?_
 refine D_load (GC.some rfl rfl) (OpV.s rfl) (fun hg=>RdC.blk (by first | (with_reducible repeat (first | exact List.Mem.head _ | apply List.Mem.tail));done | (repeat (first | exact List.Mem.head _ | apply List.Mem.tail)))) one85.h rfl ?_
 refine D_fieldAddr (GC.some rfl rfl) (OpV.t rfl) fld136_7.h ?_
 refine D_load (GC.some rfl rfl) (OpV.s rfl) (fun hg=>RdC.blk (by first | (with_reducible repeat (first | exact List.Mem.head _ | apply List.Mem.tail));done | (repeat (first | exact List.Mem.head _ | apply List.Mem.tail)))) one85.h rfl ?_
 refine D_callX (GC.some rfl rfl) fn202.h (OpVs.cons (OpV.s rfl) (OpVs.cons (OpV.s rfl) (OpVs.nil))) (by exact fun hg w F hF hM=>s_l9Alike_walk w a0_16 a1_16 (RdT.nowS (RdT.old h0.2.2.2.2.2.2.2.1) hF hM) (RdT.nowS (RdT.old h1.2.2.2.2.2.2.2.1) hF hM) _ (hy2 hg.2)) ?_
 refine D_and (cy:=_) GC.none (OpV.t rfl) (OpV.s rfl) (fun h hb=>⟨h,hb⟩) ?_
 refine D_move GC.none (OpV.t rfl) ?_
 refine D_fieldAddr (GC.some rfl rfl) (OpV.t rfl) fld136_8.h ?_
 refine D_load (GC.some rfl rfl) (OpV.s rfl) (fun hg=>RdC.blk (by first | (with_reducible repeat (first | exact List.Mem.head _ | apply List.Mem.tail));done | (repeat (first | exact List.Mem.head _ | apply List.Mem.tail)))) one3.h rfl ?_
 refine D_fieldAddr (GC.some rfl rfl) (OpV.t rfl) fld136_8.h ?_
 refine D_load (GC.some rfl rfl) (OpV.s rfl) (fun hg=>RdC.blk (by first | (with_reducible repeat (first | exact List.Mem.head _ | apply List.Mem.tail));done | (repeat (first | exact List.Mem.head _ | apply List.Mem.tail)))) one3.h rfl ?_
 refine D_bin (GC.some rfl rfl) (OpV.s rfl) (OpV.s rfl) (fun hg=>bv_eql) ?_
 refine D_and (cy:=_) GC.none (OpV.t rfl) (OpV.s rfl) (fun h hb=>⟨h,hb⟩) ?_
 refine D_move GC.none (OpV.t rfl) ?_
 refine D_fieldAddr (GC.some rfl rfl) (OpV.t rfl) fld136_9.h ?_
 refine D_load (GC.some rfl rfl) (OpV.s rfl) (fun hg=>RdC.blk (by first | (with_reducible repeat (first | exact List.Mem.head _ | apply List.Mem.tail));done | (repeat (first | exact List.Mem.head _ | apply List.Mem.tail)))) one3.h rfl ?_
 refine D_fieldAddr (GC.some rfl rfl) (OpV.t rfl) fld136_9.h ?_
 refine D_load (GC.some rfl rfl) (OpV.s rfl) (fun hg=>RdC.blk (by first | (with_reducible repeat (first | exact List.Mem.head _ | apply List.Mem.tail));done | (repeat (first | exact List.Mem.head _ | apply List.Mem.tail)))) one3.h rfl ?_
 refine D_bin (GC.some rfl rfl) (OpV.s rfl) (OpV.s rfl) (fun hg=>bv_eql) ?_
 refine D_and (cy:=_) GC.none (OpV.t rfl) (OpV.s rfl) (fun h hb=>⟨h,hb⟩) ?_
 refine D_move GC.none (OpV.t rfl) ?_
 refine D_fieldAddr (GC.some rfl rfl) (OpV.t rfl) fld136_10.h ?_
 refine D_load (GC.some rfl rfl) (OpV.s rfl) (fun hg=>RdC.blk (by first | (with_reducible repeat (first | exact List.Mem.head _ | apply List.Mem.tail));done | (repeat (first | exact List.Mem.head _ | apply List.Mem.tail)))) one4.h rfl ?_
 refine D_fieldAddr (GC.some rfl rfl) (OpV.t rfl) fld136_10.h ?_
 refine D_load (GC.some rfl rfl) (OpV.s rfl) (fun hg=>RdC.blk (by first | (with_reducible repeat (first | exact List.Mem.head _ | apply List.Mem.tail));done | (repeat (first | exact List.Mem.head _ | apply List.Mem.tail)))) one4.h rfl ?_
 refine D_bin (GC.some rfl rfl) (OpV.s rfl) (OpV.s rfl) (fun hg=>(bv_beql und4.h)) ?_
 refine D_and (cy:=_) GC.none (OpV.t rfl) (OpV.s rfl) (fun h hb=>⟨h,hb⟩) ?_
 refine D_assign GC.none (OpV.t rfl) ?_
 refine DV_nil ?_
 refine Give_is rfl rfl ?_
 refine Give_drop rfl ?_
 refine Give_drop rfl ?_
 refine Give_drop rfl ?_
 refine Give_drop rfl ?_
 refine Give_drop rfl ?_
 refine Give_drop rfl ?_
 refine Give_drop rfl ?_
 refine Give_drop rfl ?_
 refine Give_drop rfl ?_
 refine Give_drop rfl ?_
 refine Give_drop rfl ?_
 refine Give_drop rfl ?_
 refine Give_drop rfl ?_
 refine Give_drop rfl ?_
 refine Give_drop rfl ?_
 refine Give_drop rfl ?_
 refine Give_drop rfl ?_
 refine Give_drop rfl ?_
 refine Give_drop rfl ?_
 refine Give_drop rfl ?_
 refine Give_drop rfl ?_
 refine Give_drop rfl ?_
 refine Give_drop rfl ?_
 refine Give_drop rfl ?_
 refine Give_drop rfl ?_
 refine Give_drop rfl ?_
 refine Give_drop rfl ?_
 refine Give_drop rfl ?_
 refine Give_drop rfl ?_
 refine Give_drop rfl ?_
 refine Give_drop rfl ?_
 refine Give_drop rfl ?_
 refine Give_drop rfl ?_
 refine Give_drop rfl ?_
 refine Give_drop rfl ?_
 refine Give_drop rfl ?_
 refine Give_drop rfl ?_
 refine Give_drop rfl ?_
 refine Give_drop rfl ?_
 refine Give_drop rfl ?_
 refine Give_drop rfl ?_
 refine Give_drop rfl ?_
 refine Give_drop rfl ?_
 refine Give_drop rfl ?_
 refine Give_drop rfl ?_
 refine Give_drop rfl ?_
 refine Give_drop rfl ?_
 refine Give_drop rfl ?_
 refine Give_drop rfl ?_
 refine Give_drop rfl ?_
 refine Give_drop rfl ?_
 refine Give_drop rfl ?_
 refine Give_drop rfl ?_
 refine Give_drop rfl ?_
 refine Give_drop rfl ?_
 refine Give_drop rfl ?_
 refine Give_drop rfl ?_
 refine Give_drop rfl ?_
 refine Give_drop rfl ?_
 refine Give_drop rfl ?_
 refine Give_drop rfl ?_
 refine Give_drop rfl ?_
 refine Give_drop rfl ?_
 refine Give_drop rfl ?_
 refine Give_drop rfl ?_
 refine Give_drop rfl ?_
 refine Give_drop rfl ?_
 refine Give_drop rfl ?_
 refine Give_drop rfl ?_
 refine Give_drop rfl ?_
 refine Give_drop rfl ?_
 refine Give_drop rfl ?_
 refine Give_drop rfl ?_
 refine Give_drop rfl ?_
 refine Give_drop rfl ?_
 refine Give_nil ?_
 obtain rfl:=sj hp
 refine W_ret ?_
 refine res1 rfl (ResOK.tmp rfl) ⟨rfl,rfl⟩ (MSub.nil _)
noncomputable def s_l11Has (a0:List D_EMsg) (a1:D_EMsg):Option Bool :=
 whileP (fun s1:Int=>cond (decide (s1 < (a0.length:Int))) (Option.bind (idx a0 s1) (fun y3=>Option.bind (s_SameMsg (y3.1,y3.2.1,y3.2.2.1,(y3.2.2.2.1.1,y3.2.2.2.1.2),y3.2.2.2.2.1,(y3.2.2.2.2.2.1.1,y3.2.2.2.2.2.1.2.1,y3.2.2.2.2.2.1.2.2.1,y3.2.2.2.2.2.1.2.2.2.1,y3.2.2.2.2.2.1.2.2.2.2.1,y3.2.2.2.2.2.1.2.2.2.2.2.1,y3.2.2.2.2.2.1.2.2.2.2.2.2.1,y3.2.2.2.2.2.1.2.2.2.2.2.2.2),y3.2.2.2.2.2.2.1,y3.2.2.2.2.2.2.2.1,y3.2.2.2.2.2.2.2.2.1,y3.2.2.2.2.2.2.2.2.2.1,y3.2.2.2.2.2.2.2.2.2.2) (a1.1,a1.2.1,a1.2.2.1,(a1.2.2.2.1.1,a1.2.2.2.1.2),a1.2.2.2.2.1,(a1.2.2.2.2.2.1.1,a1.2.2.2.2.2.1.2.1,a1.2.2.2.2.2.1.2.2.1,a1.2.2.2.2.2.1.2.2.2.1,a1.2.2.2.2.2.1.2.2.2.2.1,a1.2.2.2.2.2.1.2.2.2.2.2.1,a1.2.2.2.2.2.1.2.2.2.2.2.2.1,a1.2.2.2.2.2.1.2.2.2.2.2.2.2),a1.2.2.2.2.2.2.1,a1.2.2.2.2.2.2.2.1,a1.2.2.2.2.2.2.2.2.1,a1.2.2.2.2.2.2.2.2.2.1,a1.2.2.2.2.2.2.2.2.2.2)) (fun y4=>cond y4 (Option.map .inr (some true)) (some (.inl (IntKind.wrap .i64 (s1+1))))))) (Option.map .inr (some false))) 0
theorem s_l11Has_walk (w:World) (a0:TL T_EMsg) (a1:T_EMsg) (h0:GT.rd w [] a0) (h1:GT.rd w [] a1) (r:Bool) (hp:s_l11Has (GT.dat a0) (GT.dat a1)=some r):Spec Tryz.prog 89 [(TL.hdr a0),.agg (GT.cells a1).toArray].toArray w [] (IsV (.bool r)):=by
 obtain ⟨a1_1,a1_2,a1_3,⟨a1_4,a1_5⟩,a1_6,⟨a1_7,a1_8,a1_9,a1_10,a1_11,a1_12,a1_13,a1_14⟩,a1_15,a1_16,a1_17,a1_18,a1_19⟩:=a1
 change Spec _ _ ([(TL.hdr a0),Value.agg #[.int .i64 a1_1,.int .i64 a1_2,.int .i64 a1_3,.int .i64 a1_4,.int .i64 a1_5,.int .i64 a1_6,.int .i64 a1_7,.int .i64 a1_8,.int .i64 a1_9,.string a1_10,.string a1_11,.string a1_12,.int .i64 a1_13,(TL.hdr a1_14),.int .i64 a1_15,(TL.hdr a1_16),.int .i64 a1_17,.int .i64 a1_18,.bool a1_19]]:List Value).toArray w [] _
 refine Spec.intro Tryz.func89 rfl Tryz.ntmps89 rfl ?_
 unfold s_l11Has at hp
 replace hp:=dd hp
 refine s2 ?_
 refine bx fun bk3=>?_
 refine s8 ?_
 refine W_while (σ:=Int) GT.dat (fun (v1_0:Int)=>[(5,.int .i64 v1_0)]) (fun (v1_0:Int)=>[]) [(0,_),(3,_)] [blk bk3 _ _] 0 hp sb ms ?_
 clear hp
 rintro v1_0 x1 hp hx1
 replace hp:=dd hp
 refine kq [0,3,5] ?_
 refine s8 ?_
 refine kp [0,3,5,9] ?_
 refine W_cond rfl (fun q2=>?_) (fun q2=>?_)
 ·replace hp:=cond_t q2 hp
  refine s4 ?_
  replace hp:=idx_bind hp;obtain ⟨⟨u3_1,u3_2,u3_3,⟨u3_4,u3_5⟩,u3_6,⟨u3_7,u3_8,u3_9,u3_10,u3_11,u3_12,u3_13,u3_14⟩,u3_15,u3_16,u3_17,u3_18,u3_19⟩,hy3,hp⟩:=hp
  replace hp:=ba hp;obtain ⟨y4,hy4,hp⟩:=hp
  refine W_D0 [17] mix (by kernel_rfl) rfl ?_
  refine s2 ?_
  refine D_idxA (X:=a0) GC.none (OpV.t rfl) (OpV.t rfl) el54.h (RdT.old h0) (fun _=>hy3) ?_
  refine D_loadW GC.none (OpV.t rfl) (fun hg=>RdT.at (RdT.old h0) (hy3).2) (by exact agg136.h) ?_
  refine s1 ?_
  refine D_callX GC.none fn141.h (OpVs.cons (OpV.t rfl) (OpVs.cons (OpV.t rfl) (OpVs.nil))) (by exact fun hg w F hF hM=>s_SameMsg_walk w (u3_1,u3_2,u3_3,(u3_4,u3_5),u3_6,(u3_7,u3_8,u3_9,u3_10,u3_11,u3_12,u3_13,u3_14),u3_15,u3_16,u3_17,u3_18,u3_19) (a1_1,a1_2,a1_3,(a1_4,a1_5),a1_6,(a1_7,a1_8,a1_9,a1_10,a1_11,a1_12,a1_13,a1_14),a1_15,a1_16,a1_17,a1_18,a1_19) (RdT.nowS (RdT.pair RdT.int (RdT.pair RdT.int (RdT.pair RdT.int (RdT.pair (RdT.pair RdT.int RdT.int) (RdT.pair RdT.int (RdT.pair (RdT.pair RdT.int (RdT.pair RdT.int (RdT.pair RdT.int (RdT.pair RdT.str (RdT.pair RdT.str (RdT.pair RdT.str (RdT.pair RdT.int (RdT.snd (RdT.snd (RdT.snd (RdT.snd (RdT.snd (RdT.snd (RdT.snd (RdT.fst (RdT.snd (RdT.snd (RdT.snd (RdT.snd (RdT.snd (RdT.of (RdT.old h0) (hy3).2))))))))))))))))))))) (RdT.pair RdT.int (RdT.pair (RdT.fst (RdT.snd (RdT.snd (RdT.snd (RdT.snd (RdT.snd (RdT.snd (RdT.snd (RdT.of (RdT.old h0) (hy3).2))))))))) (RdT.pair RdT.int (RdT.pair RdT.int RdT.bool)))))))))) hF hM) (RdT.nowS (RdT.pair RdT.int (RdT.pair RdT.int (RdT.pair RdT.int (RdT.pair (RdT.pair RdT.int RdT.int) (RdT.pair RdT.int (RdT.pair (RdT.pair RdT.int (RdT.pair RdT.int (RdT.pair RdT.int (RdT.pair RdT.str (RdT.pair RdT.str (RdT.pair RdT.str (RdT.pair RdT.int (RdT.old h1.2.2.2.2.2.1.2.2.2.2.2.2.2)))))))) (RdT.pair RdT.int (RdT.pair (RdT.old h1.2.2.2.2.2.2.2.1) (RdT.pair RdT.int (RdT.pair RdT.int RdT.bool)))))))))) hF hM) _ hy4) ?_
  refine s8 ?_
  refine kp [0,3,5,17] ?_
  refine W_cond rfl (fun q5=>?_) (fun q5=>?_)
  ·replace hp:=cond_t q5 hp
   refine s4 ?_
   replace hp:=map_any hp;obtain ⟨a6,hp,z_6⟩:=hp
   obtain rfl:=hx1 _ z_6
   obtain rfl:=sj hp
   refine s1 ?_
   refine res1 rfl (ResOK.tmp rfl) ⟨rfl,rfl⟩ ms
  ·replace hp:=cond_f q5 hp
   refine s6 ?_
   exact ⟨IntKind.wrap .i64 (v1_0+1),sb,(.sub ms),some_eq hp⟩
 ·replace hp:=cond_f q2 hp
  refine W_exit ?_
  replace hp:=map_any hp;obtain ⟨a7,hp,z_7⟩:=hp
  obtain rfl:=hx1 _ z_7
  refine s4 ?_
  obtain rfl:=sj hp
  refine s1 ?_
  refine res1 rfl (ResOK.tmp rfl) ⟨rfl,rfl⟩ ms
noncomputable def s_ENetOk (a0:D_ENet):Option Bool :=
 cond ((!decide ((a0.1.length:Int)=3))||(decide (160 < (a0.2.length:Int)))) (some false) (whileP (fun s2:Int=>cond (decide (s2 < 3)) (Option.bind (idx a0.1 s2) (fun y4=>Option.bind (s_ENodeOk (y4.1,y4.2.1,y4.2.2.1,y4.2.2.2)) (fun y5=>gb (!(!y5)) (idx a0.1 s2) (fun y6=>cond ((!y5)||(!decide (y6.1=s2))) (Option.map .inr (some false)) (some (.inl (IntKind.wrap .i64 (s2+1)))))))) (Option.map .inr (whileP (fun s10:Int=>cond (decide (s10 < (a0.2.length:Int))) (Option.bind (idx a0.2 s10) (fun y12=>Option.bind (s_EMsgOk (y12.1,y12.2.1,y12.2.2.1,(y12.2.2.2.1.1,y12.2.2.2.1.2),y12.2.2.2.2.1,(y12.2.2.2.2.2.1.1,y12.2.2.2.2.2.1.2.1,y12.2.2.2.2.2.1.2.2.1,y12.2.2.2.2.2.1.2.2.2.1,y12.2.2.2.2.2.1.2.2.2.2.1,y12.2.2.2.2.2.1.2.2.2.2.2.1,y12.2.2.2.2.2.1.2.2.2.2.2.2.1,y12.2.2.2.2.2.1.2.2.2.2.2.2.2),y12.2.2.2.2.2.2.1,y12.2.2.2.2.2.2.2.1,y12.2.2.2.2.2.2.2.2.1,y12.2.2.2.2.2.2.2.2.2.1,y12.2.2.2.2.2.2.2.2.2.2)) (fun y13=>gb (!(!y13)) (slcP a0.2 0 s10) (fun y15=>gb (!(!y13)) (idx a0.2 s10) (fun y16=>gb (!(!y13)) (s_l11Has y15 (y16.1,y16.2.1,y16.2.2.1,(y16.2.2.2.1.1,y16.2.2.2.1.2),y16.2.2.2.2.1,(y16.2.2.2.2.2.1.1,y16.2.2.2.2.2.1.2.1,y16.2.2.2.2.2.1.2.2.1,y16.2.2.2.2.2.1.2.2.2.1,y16.2.2.2.2.2.1.2.2.2.2.1,y16.2.2.2.2.2.1.2.2.2.2.2.1,y16.2.2.2.2.2.1.2.2.2.2.2.2.1,y16.2.2.2.2.2.1.2.2.2.2.2.2.2),y16.2.2.2.2.2.2.1,y16.2.2.2.2.2.2.2.1,y16.2.2.2.2.2.2.2.2.1,y16.2.2.2.2.2.2.2.2.2.1,y16.2.2.2.2.2.2.2.2.2.2)) (fun y17=>cond ((!y13)||y17) (Option.map .inr (some false)) (some (.inl (IntKind.wrap .i64 (s10+1)))))))))) (Option.map .inr (some true))) 0))) 0)
theorem s_ENetOk_walk (w:World) (a0:T_ENet) (h0:GT.rd w [] a0) (r:Bool) (hp:s_ENetOk (GT.dat a0)=some r):Spec Tryz.prog 46 [.agg (GT.cells a0).toArray].toArray w [] (IsV (.bool r)):=by
 obtain ⟨a0_1,a0_2⟩:=a0
 change Spec _ _ ([Value.agg #[(TL.hdr a0_1),(TL.hdr a0_2)]]:List Value).toArray w [] _
 refine Spec.intro Tryz.func46 rfl Tryz.ntmps46 rfl ?_
 unfold s_ENetOk at hp
 replace hp:=dd hp
 refine s2 ?_
 refine bx fun bk1=>?_
 refine s4 ?_
 refine W_D0 [14] mix (by kernel_rfl) rfl ?_
 refine s2 ?_
 refine D_lenP (X:=a0_1) GC.none (OpV.t rfl) el53.h ?_
 refine s4 ?_
 refine D_lenP (X:=a0_2) (GC.some rfl rfl) (OpV.s rfl) el54.h ?_
 refine s14 ?_
 refine kp [1,14] ?_
 refine W_cond rfl (fun q1=>?_) (fun q1=>?_)
 ·replace hp:=cond_t q1 hp
  refine s4 ?_
  obtain rfl:=sj hp
  refine s1 ?_
  refine res1 rfl (ResOK.tmp rfl) ⟨rfl,rfl⟩ ms
 ·replace hp:=cond_f q1 hp
  refine s7 ?_
  refine W_while (σ:=Int) GT.dat (fun (v2_0:Int)=>[(3,.int .i64 v2_0)]) (fun (v2_0:Int)=>[]) [(1,_)] [blk bk1 _ _] 0 hp sb ms ?_
  clear hp
  rintro v2_0 x2 hp hx2
  replace hp:=dd hp
  refine kq [1,3] ?_
  refine s6 ?_
  refine kp [1,3,16] ?_
  refine W_cond rfl (fun q3=>?_) (fun q3=>?_)
  ·replace hp:=cond_t q3 hp
   refine s4 ?_
   replace hp:=idx_bind hp;obtain ⟨⟨u4_1,u4_2,u4_3,u4_4⟩,hy4,hp⟩:=hp
   replace hp:=ba hp;obtain ⟨y5,hy5,hp⟩:=hp
   replace hp:=idx_gb hp;obtain ⟨⟨u6_1,u6_2,u6_3,u6_4⟩,hy6,hp⟩:=hp
   refine W_D0 [35] mix (by kernel_rfl) rfl ?_
   refine s3 ?_
   refine D_idxA (X:=a0_1) GC.none (OpV.t rfl) (OpV.t rfl) el53.h (RdT.old h0.1) (fun _=>hy4) ?_
   refine D_loadW GC.none (OpV.t rfl) (fun hg=>RdT.at (RdT.old h0.1) (hy4).2) (by exact agg32.h) ?_
   refine D_callX GC.none fn27.h (OpVs.cons (OpV.t rfl) (OpVs.nil)) (by exact fun hg w F hF hM=>s_ENodeOk_walk w (u4_1,u4_2,u4_3,u4_4) (RdT.nowS (RdT.pair RdT.int (RdT.pair RdT.int (RdT.pair (RdT.fst (RdT.snd (RdT.snd (RdT.of (RdT.old h0.1) (hy4).2)))) (RdT.snd (RdT.snd (RdT.snd (RdT.of (RdT.old h0.1) (hy4).2))))))) hF hM) _ hy5) ?_
   refine s5 ?_
   refine D_idxA (X:=a0_1) (GC.some rfl rfl) (OpV.s rfl) (OpV.s rfl) el53.h (RdT.old h0.1) (fun hg=>hy6 (gnot hg.2)) ?_
   refine s1 ?_
   refine D_load (GC.some rfl rfl) (OpV.s rfl) (fun hg=>RdT.at (RdT.old h0.1) (hy6 (gnot hg.2)).2) one3.h rfl ?_
   refine s20 ?_
   refine s2 ?_
   refine kp [1,3,35] ?_
   refine W_cond rfl (fun q7=>?_) (fun q7=>?_)
   ·replace hp:=cond_t q7 hp
    refine s4 ?_
    replace hp:=map_any hp;obtain ⟨a8,hp,z_8⟩:=hp
    obtain rfl:=hx2 _ z_8
    obtain rfl:=sj hp
    refine s1 ?_
    refine res1 rfl (ResOK.tmp rfl) ⟨rfl,rfl⟩ ms
   ·replace hp:=cond_f q7 hp
    refine s6 ?_
    exact ⟨IntKind.wrap .i64 (v2_0+1),sb,(.sub ms),some_eq hp⟩
  ·replace hp:=cond_f q3 hp
   refine W_exit ?_
   replace hp:=map_any hp;obtain ⟨a9,hp,z_9⟩:=hp
   obtain rfl:=hx2 _ z_9
   refine s6 ?_
   refine W_while (σ:=Int) GT.dat (fun (v10_0:Int)=>[(4,.int .i64 v10_0)]) (fun (v10_0:Int)=>[]) [(1,_)] [blk bk1 _ _] 0 hp sb ms ?_
   clear hp
   rintro v10_0 x10 hp hx10
   replace hp:=dd hp
   refine kq [1,4] ?_
   refine s9 ?_
   refine kp [1,4,40] ?_
   refine W_cond rfl (fun q11=>?_) (fun q11=>?_)
   ·replace hp:=cond_t q11 hp
    refine s4 ?_
    replace hp:=idx_bind hp;obtain ⟨⟨u12_1,u12_2,u12_3,⟨u12_4,u12_5⟩,u12_6,⟨u12_7,u12_8,u12_9,u12_10,u12_11,u12_12,u12_13,u12_14⟩,u12_15,u12_16,u12_17,u12_18,u12_19⟩,hy12,hp⟩:=hp
    replace hp:=ba hp;obtain ⟨y13,hy13,hp⟩:=hp
    replace hp:=gb_anyD hp;obtain ⟨y15,hy15,hny15,hp⟩:=hp
    replace hp:=idx_gb hp;obtain ⟨⟨u16_1,u16_2,u16_3,⟨u16_4,u16_5⟩,u16_6,⟨u16_7,u16_8,u16_9,u16_10,u16_11,u16_12,u16_13,u16_14⟩,u16_15,u16_16,u16_17,u16_18,u16_19⟩,hy16,hp⟩:=hp
    replace hp:=gb_any hp;obtain ⟨y17,hy17,hp⟩:=hp
    refine W_D0 [61] mix (by kernel_rfl) rfl ?_
    refine s3 ?_
    refine D_idxA (X:=a0_2) GC.none (OpV.t rfl) (OpV.t rfl) el54.h (RdT.old h0.2) (fun _=>hy12) ?_
    refine D_loadW GC.none (OpV.t rfl) (fun hg=>RdT.at (RdT.old h0.2) (hy12).2) (by exact agg136.h) ?_
    refine D_callX GC.none fn88.h (OpVs.cons (OpV.t rfl) (OpVs.nil)) (by exact fun hg w F hF hM=>s_EMsgOk_walk w (u12_1,u12_2,u12_3,(u12_4,u12_5),u12_6,(u12_7,u12_8,u12_9,u12_10,u12_11,u12_12,u12_13,u12_14),u12_15,u12_16,u12_17,u12_18,u12_19) (RdT.nowS (RdT.pair RdT.int (RdT.pair RdT.int (RdT.pair RdT.int (RdT.pair (RdT.pair RdT.int RdT.int) (RdT.pair RdT.int (RdT.pair (RdT.pair RdT.int (RdT.pair RdT.int (RdT.pair RdT.int (RdT.pair RdT.str (RdT.pair RdT.str (RdT.pair RdT.str (RdT.pair RdT.int (RdT.snd (RdT.snd (RdT.snd (RdT.snd (RdT.snd (RdT.snd (RdT.snd (RdT.fst (RdT.snd (RdT.snd (RdT.snd (RdT.snd (RdT.snd (RdT.of (RdT.old h0.2) (hy12).2))))))))))))))))))))) (RdT.pair RdT.int (RdT.pair (RdT.fst (RdT.snd (RdT.snd (RdT.snd (RdT.snd (RdT.snd (RdT.snd (RdT.snd (RdT.of (RdT.old h0.2) (hy12).2))))))))) (RdT.pair RdT.int (RdT.pair RdT.int RdT.bool)))))))))) hF hM) _ hy13) ?_
    refine s5 ?_
    refine D_slcG (X:=a0_2) (GC.some rfl rfl) (OpV.s rfl) optD.none (optD.some (OpV.s rfl)) el54.h rfl (RdT.old h0.2) (fun hg=>hy15 (gnot hg.2)) (fun hn=>hny15 (by simpa using hn)) (fun X14 hdX14 hRX14=>?_)
    subst hdX14
    refine s3 ?_
    refine D_idxA (X:=a0_2) (GC.some rfl rfl) (OpV.s rfl) (OpV.s rfl) el54.h (RdT.old h0.2) (fun hg=>hy16 (gnot hg.2)) ?_
    refine D_loadW (GC.some rfl rfl) (OpV.s rfl) (fun hg=>RdT.at (RdT.old h0.2) (hy16 (gnot hg.2)).2) (by exact agg136.h) ?_
    refine D_callX (GC.some rfl rfl) fn89.h (OpVs.cons (OpV.s rfl) (OpVs.cons (OpV.s rfl) (OpVs.nil))) (by exact fun hg w F hF hM=>s_l11Has_walk w X14 (u16_1,u16_2,u16_3,(u16_4,u16_5),u16_6,(u16_7,u16_8,u16_9,u16_10,u16_11,u16_12,u16_13,u16_14),u16_15,u16_16,u16_17,u16_18,u16_19) (RdT.nowS (RdT.map hRX14 (RdT.old h0.2)) hF hM) (RdT.nowS (RdT.pair RdT.int (RdT.pair RdT.int (RdT.pair RdT.int (RdT.pair (RdT.pair RdT.int RdT.int) (RdT.pair RdT.int (RdT.pair (RdT.pair RdT.int (RdT.pair RdT.int (RdT.pair RdT.int (RdT.pair RdT.str (RdT.pair RdT.str (RdT.pair RdT.str (RdT.pair RdT.int (RdT.snd (RdT.snd (RdT.snd (RdT.snd (RdT.snd (RdT.snd (RdT.snd (RdT.fst (RdT.snd (RdT.snd (RdT.snd (RdT.snd (RdT.snd (RdT.of (RdT.old h0.2) (hy16 (gnot hg.2)).2))))))))))))))))))))) (RdT.pair RdT.int (RdT.pair (RdT.fst (RdT.snd (RdT.snd (RdT.snd (RdT.snd (RdT.snd (RdT.snd (RdT.snd (RdT.of (RdT.old h0.2) (hy16 (gnot hg.2)).2))))))))) (RdT.pair RdT.int (RdT.pair RdT.int RdT.bool)))))))))) hF hM) _ (hy17 (gnot hg.2))) ?_
    refine s20 ?_
    refine s2 ?_
    refine kp [1,4,61] ?_
    refine W_cond rfl (fun q18=>?_) (fun q18=>?_)
    ·replace hp:=cond_t q18 hp
     refine s4 ?_
     replace hp:=map_any hp;obtain ⟨a19,hp,z_19⟩:=hp
     obtain rfl:=hx10 _ z_19
     obtain rfl:=sj hp
     refine s1 ?_
     refine res1 rfl (ResOK.tmp rfl) ⟨rfl,rfl⟩ ms
    ·replace hp:=cond_f q18 hp
     refine s6 ?_
     exact ⟨IntKind.wrap .i64 (v10_0+1),sb,(.sub ms),some_eq hp⟩
   ·replace hp:=cond_f q11 hp
    refine W_exit ?_
    replace hp:=map_any hp;obtain ⟨a20,hp,z_20⟩:=hp
    obtain rfl:=hx10 _ z_20
    refine s4 ?_
    obtain rfl:=sj hp
    refine s1 ?_
    refine res1 rfl (ResOK.tmp rfl) ⟨rfl,rfl⟩ ms
noncomputable def i_EMsgOk (a0:D_EMsg):Option Bool :=
 Option.bind (i_within a0.1 1 7) (fun y1=>gb y1 (i_isRep a0.2.1) (fun y2=>gb (y1&&y2) (i_isRep a0.2.2.1) (fun y3=>gb (((y1&&y2)&&y3)&&(!decide (a0.2.1=a0.2.2.1))) (i_idOk (a0.2.2.2.1.1,a0.2.2.2.1.2)) (fun y4=>gb ((((y1&&y2)&&y3)&&(!decide (a0.2.1=a0.2.2.1)))&&y4) (i_within a0.2.2.2.2.1 0 600) (fun y5=>gb (((((y1&&y2)&&y3)&&(!decide (a0.2.1=a0.2.2.1)))&&y4)&&y5) (i_CmdOk (a0.2.2.2.2.2.1.1,a0.2.2.2.2.2.1.2.1,a0.2.2.2.2.2.1.2.2.1,a0.2.2.2.2.2.1.2.2.2.1,a0.2.2.2.2.2.1.2.2.2.2.1,a0.2.2.2.2.2.1.2.2.2.2.2.1,a0.2.2.2.2.2.1.2.2.2.2.2.2.1,a0.2.2.2.2.2.1.2.2.2.2.2.2.2)) (fun y6=>gb ((((((y1&&y2)&&y3)&&(!decide (a0.2.1=a0.2.2.1)))&&y4)&&y5)&&y6) (i_within a0.2.2.2.2.2.2.1 0 60) (fun y7=>gb (((((((y1&&y2)&&y3)&&(!decide (a0.2.1=a0.2.2.1)))&&y4)&&y5)&&y6)&&y7) (i_areDeps a0.2.2.2.2.2.2.2.1 (a0.2.2.2.1.1,a0.2.2.2.1.2)) (fun y8=>gb ((((((((y1&&y2)&&y3)&&(!decide (a0.2.1=a0.2.2.1)))&&y4)&&y5)&&y6)&&y7)&&y8) (i_within a0.2.2.2.2.2.2.2.2.1 0 3) (fun y9=>gb (((((((((y1&&y2)&&y3)&&(!decide (a0.2.1=a0.2.2.1)))&&y4)&&y5)&&y6)&&y7)&&y8)&&y9) (i_within a0.2.2.2.2.2.2.2.2.2.1 (-1) 600) (fun y10=>some ((((((((((y1&&y2)&&y3)&&(!decide (a0.2.1=a0.2.2.1)))&&y4)&&y5)&&y6)&&y7)&&y8)&&y9)&&y10)))))))))))
theorem i_EMsgOk_walk (w:World) (a0:T_EMsg) (h0:GT.rd w [] a0) (r:Bool) (hp:i_EMsgOk (GT.dat a0)=some r):Spec Tryz.prog 97 [.agg (GT.cells a0).toArray].toArray w [] (IsV (.bool r)):=by
 obtain ⟨a0_1,a0_2,a0_3,⟨a0_4,a0_5⟩,a0_6,⟨a0_7,a0_8,a0_9,a0_10,a0_11,a0_12,a0_13,a0_14⟩,a0_15,a0_16,a0_17,a0_18,a0_19⟩:=a0
 change Spec _ _ ([Value.agg #[.int .i64 a0_1,.int .i64 a0_2,.int .i64 a0_3,.int .i64 a0_4,.int .i64 a0_5,.int .i64 a0_6,.int .i64 a0_7,.int .i64 a0_8,.int .i64 a0_9,.string a0_10,.string a0_11,.string a0_12,.int .i64 a0_13,(TL.hdr a0_14),.int .i64 a0_15,(TL.hdr a0_16),.int .i64 a0_17,.int .i64 a0_18,.bool a0_19]]:List Value).toArray w [] _
 refine Spec.intro Tryz.func97 rfl Tryz.ntmps97 rfl ?_
 unfold i_EMsgOk at hp
 replace hp:=dd hp
 refine s2 ?_
 refine bx fun bk1=>?_
 refine s3 ?_
 replace hp:=ba hp;obtain ⟨y1,hy1,hp⟩:=hp
 replace hp:=gb_any hp;obtain ⟨y2,hy2,hp⟩:=hp
 replace hp:=gb_any hp;obtain ⟨y3,hy3,hp⟩:=hp
 replace hp:=gb_any hp;obtain ⟨y4,hy4,hp⟩:=hp
 replace hp:=gb_any hp;obtain ⟨y5,hy5,hp⟩:=hp
 replace hp:=gb_any hp;obtain ⟨y6,hy6,hp⟩:=hp
 replace hp:=gb_any hp;obtain ⟨y7,hy7,hp⟩:=hp
 replace hp:=gb_any hp;obtain ⟨y8,hy8,hp⟩:=hp
 replace hp:=gb_any hp;obtain ⟨y9,hy9,hp⟩:=hp
 replace hp:=gb_any hp;obtain ⟨y10,hy10,hp⟩:=hp
 refine W_D0 [2] mix (by kernel_rfl) rfl ?_
 refine s2 ?_
 refine D_callX GC.none fn72.h (OpVs.cons (OpV.t rfl) (OpVs.cons OpV.c (OpVs.cons OpV.c (OpVs.nil)))) (by exact fun hg w F hF hM=>i_within_walk w a0_1 1 7  _ hy1) ?_
 refine s3 ?_
 refine D_callX (GC.some rfl rfl) fn71.h (OpVs.cons (OpV.s rfl) (OpVs.nil)) (by exact fun hg w F hF hM=>i_isRep_walk w a0_2  _ (hy2 hg.2)) ?_
 refine s4 ?_
 refine D_callX (GC.some rfl rfl) fn71.h (OpVs.cons (OpV.s rfl) (OpVs.nil)) (by exact fun hg w F hF hM=>i_isRep_walk w a0_3  _ (hy3 hg.2)) ?_
 refine s10 ?_
 refine D_loadW (GC.some rfl rfl) (OpV.s rfl) (fun hg=>RdC.seg (RdC.blk mm) 3 2 rfl) (by exact agg92.h) ?_
 refine D_callX (GC.some rfl rfl) fn121.h (OpVs.cons (OpV.s rfl) (OpVs.nil)) (by exact fun hg w F hF hM=>i_idOk_walk w (a0_4,a0_5) (RdT.nowS (RdT.pair RdT.int RdT.int) hF hM) _ (hy4 hg.2)) ?_
 refine s4 ?_
 refine D_callX (GC.some rfl rfl) fn72.h (OpVs.cons (OpV.s rfl) (OpVs.cons OpV.c (OpVs.cons OpV.c (OpVs.nil)))) (by exact fun hg w F hF hM=>i_within_walk w a0_6 0 600  _ (hy5 hg.2)) ?_
 refine s3 ?_
 refine D_loadW (GC.some rfl rfl) (OpV.s rfl) (fun hg=>RdC.seg (RdC.blk mm) 6 8 rfl) (by exact agg69.h) ?_
 refine D_callX (GC.some rfl rfl) fn129.h (OpVs.cons (OpV.s rfl) (OpVs.nil)) (by exact fun hg w F hF hM=>i_CmdOk_walk w (a0_7,a0_8,a0_9,a0_10,a0_11,a0_12,a0_13,a0_14) (RdT.nowS (RdT.pair RdT.int (RdT.pair RdT.int (RdT.pair RdT.int (RdT.pair RdT.str (RdT.pair RdT.str (RdT.pair RdT.str (RdT.pair RdT.int (RdT.old h0.2.2.2.2.2.1.2.2.2.2.2.2.2)))))))) hF hM) _ (hy6 hg.2)) ?_
 refine s4 ?_
 refine D_callX (GC.some rfl rfl) fn72.h (OpVs.cons (OpV.s rfl) (OpVs.cons OpV.c (OpVs.cons OpV.c (OpVs.nil)))) (by exact fun hg w F hF hM=>i_within_walk w a0_15 0 60  _ (hy7 hg.2)) ?_
 refine s5 ?_
 refine D_loadW (GC.some rfl rfl) (OpV.s rfl) (fun hg=>RdC.seg (RdC.blk mm) 3 2 rfl) (by exact agg92.h) ?_
 refine D_callX (GC.some rfl rfl) fn122.h (OpVs.cons (OpV.s rfl) (OpVs.cons (OpV.s rfl) (OpVs.nil))) (by exact fun hg w F hF hM=>i_areDeps_walk w a0_16 (a0_4,a0_5) (RdT.nowS (RdT.old h0.2.2.2.2.2.2.2.1) hF hM) (RdT.nowS (RdT.pair RdT.int RdT.int) hF hM) _ (hy8 hg.2)) ?_
 refine s4 ?_
 refine D_callX (GC.some rfl rfl) fn72.h (OpVs.cons (OpV.s rfl) (OpVs.cons OpV.c (OpVs.cons OpV.c (OpVs.nil)))) (by exact fun hg w F hF hM=>i_within_walk w a0_17 0 3  _ (hy9 hg.2)) ?_
 refine s4 ?_
 refine D_callX (GC.some rfl rfl) fn72.h (OpVs.cons (OpV.s rfl) (OpVs.cons OpV.c (OpVs.cons OpV.c (OpVs.nil)))) (by exact fun hg w F hF hM=>i_within_walk w a0_18 (-1) 600  _ (hy10 hg.2)) ?_
 refine s20 ?_
 refine s20 ?_
 refine s20 ?_
 refine s2 ?_
 obtain rfl:=sj hp
 refine s1 ?_
 refine res1 rfl (ResOK.tmp rfl) ⟨rfl,rfl⟩ ms
noncomputable def sl_Equal_implIdimplId (a0:List D_Id) (a1:List D_Id):Option Bool :=
 cond (!decide ((a0.length:Int)=(a1.length:Int))) (some false) (whileP (fun s2:Int=>cond (decide (s2 < (a0.length:Int))) (Option.bind (idx a0 s2) (fun y4=>Option.bind (idx a1 s2) (fun y5=>cond (!(decide (y4.1=y5.1)&&(decide (y4.2=y5.2)&&true))) (Option.map .inr (some false)) (some (.inl (IntKind.wrap .i64 (s2+1))))))) (Option.map .inr (some true))) 0)
theorem sl_Equal_implIdimplId_walk (w:World) (a0:TL T_Id) (a1:TL T_Id) (h0:GT.rd w [] a0) (h1:GT.rd w [] a1) (r:Bool) (hp:sl_Equal_implIdimplId (GT.dat a0) (GT.dat a1)=some r):Spec Tryz.prog 56 [(TL.hdr a0),(TL.hdr a1)].toArray w [] (IsV (.bool r)):=by
 refine Spec.intro Tryz.func56 rfl Tryz.ntmps56 rfl ?_
 unfold sl_Equal_implIdimplId at hp
 replace hp:=dd hp
 refine s13 ?_
 refine kp [0,1,10] ?_
 refine W_cond rfl (fun q1=>?_) (fun q1=>?_)
 ·replace hp:=cond_t q1 hp
  refine s4 ?_
  obtain rfl:=sj hp
  refine s1 ?_
  refine res1 rfl (ResOK.tmp rfl) ⟨rfl,rfl⟩ ms
 ·replace hp:=cond_f q1 hp
  refine s9 ?_
  refine W_while (σ:=Int) GT.dat (fun (v2_0:Int)=>[(13,.int .i64 v2_0)]) (fun (v2_0:Int)=>[]) [(0,_),(1,_),(12,_)] [] 0 hp sb ms ?_
  clear hp
  rintro v2_0 x2 hp hx2
  replace hp:=dd hp
  refine kq [0,1,12,13] ?_
  refine s5 ?_
  refine kp [0,1,12,13,14] ?_
  refine W_cond rfl (fun q3=>?_) (fun q3=>?_)
  ·replace hp:=cond_t q3 hp
   refine s9 ?_
   replace hp:=idx_bind hp;obtain ⟨⟨u4_1,u4_2⟩,hy4,hp⟩:=hp
   replace hp:=idx_bind hp;obtain ⟨⟨u5_1,u5_2⟩,hy5,hp⟩:=hp
   refine W_D0 [24] mix (by kernel_rfl) rfl ?_
   refine s2 ?_
   refine D_idxA (X:=a0) GC.none (OpV.t rfl) (OpV.t rfl) el85.h (RdT.old h0) (fun _=>hy4) ?_
   refine D_loadW GC.none (OpV.t rfl) (fun hg=>RdT.at (RdT.old h0) (hy4).2) (by exact agg92.h) ?_
   refine s2 ?_
   refine D_idxA (X:=a1) GC.none (OpV.t rfl) (OpV.t rfl) el85.h (RdT.old h1) (fun _=>hy5) ?_
   refine D_loadW GC.none (OpV.t rfl) (fun hg=>RdT.at (RdT.old h1) (hy5).2) (by exact agg92.h) ?_
   refine D_bin GC.none (OpV.t rfl) (OpV.t rfl) (fun hg=>(bv_aneq eqsh92 (EqS.consI one3.h und3.h rfl rfl (EqS.consI one3.h und3.h rfl rfl EqS.nil)))) ?_
   refine s11 ?_
   refine kp [0,1,12,13,24] ?_
   refine W_cond rfl (fun q6=>?_) (fun q6=>?_)
   ·replace hp:=cond_t q6 hp
    refine s4 ?_
    replace hp:=map_any hp;obtain ⟨a7,hp,z_7⟩:=hp
    obtain rfl:=hx2 _ z_7
    obtain rfl:=sj hp
    refine s1 ?_
    refine res1 rfl (ResOK.tmp rfl) ⟨rfl,rfl⟩ ms
   ·replace hp:=cond_f q6 hp
    refine s5 ?_
    exact ⟨IntKind.wrap .i64 (v2_0+1),sb,(.sub ms),some_eq hp⟩
  ·replace hp:=cond_f q3 hp
   refine W_exit ?_
   replace hp:=map_any hp;obtain ⟨a8,hp,z_8⟩:=hp
   obtain rfl:=hx2 _ z_8
   refine s4 ?_
   obtain rfl:=sj hp
   refine s1 ?_
   refine res1 rfl (ResOK.tmp rfl) ⟨rfl,rfl⟩ ms
noncomputable def i_SameMsg (a0:D_EMsg) (a1:D_EMsg):Option Bool :=
 gb (((((decide (a0.1=a1.1))&&(decide (a0.2.1=a1.2.1)))&&(decide (a0.2.2.1=a1.2.2.1)))&&(decide (a0.2.2.2.1.1=a1.2.2.2.1.1)&&(decide (a0.2.2.2.1.2=a1.2.2.2.1.2)&&true)))&&(decide (a0.2.2.2.2.1=a1.2.2.2.2.1))) (i_SameCmd (a0.2.2.2.2.2.1.1,a0.2.2.2.2.2.1.2.1,a0.2.2.2.2.2.1.2.2.1,a0.2.2.2.2.2.1.2.2.2.1,a0.2.2.2.2.2.1.2.2.2.2.1,a0.2.2.2.2.2.1.2.2.2.2.2.1,a0.2.2.2.2.2.1.2.2.2.2.2.2.1,a0.2.2.2.2.2.1.2.2.2.2.2.2.2) (a1.2.2.2.2.2.1.1,a1.2.2.2.2.2.1.2.1,a1.2.2.2.2.2.1.2.2.1,a1.2.2.2.2.2.1.2.2.2.1,a1.2.2.2.2.2.1.2.2.2.2.1,a1.2.2.2.2.2.1.2.2.2.2.2.1,a1.2.2.2.2.2.1.2.2.2.2.2.2.1,a1.2.2.2.2.2.1.2.2.2.2.2.2.2)) (fun y1=>gb (((((((decide (a0.1=a1.1))&&(decide (a0.2.1=a1.2.1)))&&(decide (a0.2.2.1=a1.2.2.1)))&&(decide (a0.2.2.2.1.1=a1.2.2.2.1.1)&&(decide (a0.2.2.2.1.2=a1.2.2.2.1.2)&&true)))&&(decide (a0.2.2.2.2.1=a1.2.2.2.2.1)))&&y1)&&(decide (a0.2.2.2.2.2.2.1=a1.2.2.2.2.2.2.1))) (sl_Equal_implIdimplId a0.2.2.2.2.2.2.2.1 a1.2.2.2.2.2.2.2.1) (fun y2=>some (((((((((((decide (a0.1=a1.1))&&(decide (a0.2.1=a1.2.1)))&&(decide (a0.2.2.1=a1.2.2.1)))&&(decide (a0.2.2.2.1.1=a1.2.2.2.1.1)&&(decide (a0.2.2.2.1.2=a1.2.2.2.1.2)&&true)))&&(decide (a0.2.2.2.2.1=a1.2.2.2.2.1)))&&y1)&&(decide (a0.2.2.2.2.2.2.1=a1.2.2.2.2.2.2.1)))&&y2)&&(decide (a0.2.2.2.2.2.2.2.2.1=a1.2.2.2.2.2.2.2.2.1)))&&(decide (a0.2.2.2.2.2.2.2.2.2.1=a1.2.2.2.2.2.2.2.2.2.1)))&&(a0.2.2.2.2.2.2.2.2.2.2 == a1.2.2.2.2.2.2.2.2.2.2))))
theorem i_SameMsg_walk (w:World) (a0:T_EMsg) (a1:T_EMsg) (h0:GT.rd w [] a0) (h1:GT.rd w [] a1) (r:Bool) (hp:i_SameMsg (GT.dat a0) (GT.dat a1)=some r):Spec Tryz.prog 148 [.agg (GT.cells a0).toArray,.agg (GT.cells a1).toArray].toArray w [] (IsV (.bool r)):=by
 obtain ⟨a0_1,a0_2,a0_3,⟨a0_4,a0_5⟩,a0_6,⟨a0_7,a0_8,a0_9,a0_10,a0_11,a0_12,a0_13,a0_14⟩,a0_15,a0_16,a0_17,a0_18,a0_19⟩:=a0
 obtain ⟨a1_1,a1_2,a1_3,⟨a1_4,a1_5⟩,a1_6,⟨a1_7,a1_8,a1_9,a1_10,a1_11,a1_12,a1_13,a1_14⟩,a1_15,a1_16,a1_17,a1_18,a1_19⟩:=a1
 change Spec _ _ ([Value.agg #[.int .i64 a0_1,.int .i64 a0_2,.int .i64 a0_3,.int .i64 a0_4,.int .i64 a0_5,.int .i64 a0_6,.int .i64 a0_7,.int .i64 a0_8,.int .i64 a0_9,.string a0_10,.string a0_11,.string a0_12,.int .i64 a0_13,(TL.hdr a0_14),.int .i64 a0_15,(TL.hdr a0_16),.int .i64 a0_17,.int .i64 a0_18,.bool a0_19],Value.agg #[.int .i64 a1_1,.int .i64 a1_2,.int .i64 a1_3,.int .i64 a1_4,.int .i64 a1_5,.int .i64 a1_6,.int .i64 a1_7,.int .i64 a1_8,.int .i64 a1_9,.string a1_10,.string a1_11,.string a1_12,.int .i64 a1_13,(TL.hdr a1_14),.int .i64 a1_15,(TL.hdr a1_16),.int .i64 a1_17,.int .i64 a1_18,.bool a1_19]]:List Value).toArray w [] _
 refine Spec.intro Tryz.func148 rfl Tryz.ntmps148 rfl ?_
 unfold i_SameMsg at hp
 try dsimp only [dat_pair,dat_int,dat_bool,dat_str,dat_ar] at hp
 refine W_seq ?_
 refine W_region ?_
 refine L_box rfl rfl (fun bk2=>?_)
 refine L_box rfl rfl (fun bk3=>?_)
 refine L_assign rfl rfl ?_
 refine L_nil ?_
 refine W_seq ?_
 have ho:=hp;clear hp;obtain ⟨y1,hy1,hp⟩:=gb_any ho;clear ho
 have ho:=hp;clear hp;obtain ⟨y2,hy2,hp⟩:=gb_any ho;clear ho
 refine W_D0 [4] mix (by kernel_rfl) rfl ?_
 refine D_fieldAddr GC.none (OpV.t rfl) fld136_0.h ?_
 refine D_load GC.none (OpV.t rfl) (fun hg=>RdC.blk (by first | (with_reducible repeat (first | exact List.Mem.head _ | apply List.Mem.tail));done | (repeat (first | exact List.Mem.head _ | apply List.Mem.tail)))) one3.h rfl ?_
 refine D_fieldAddr GC.none (OpV.t rfl) fld136_0.h ?_
 refine D_load GC.none (OpV.t rfl) (fun hg=>RdC.blk (by first | (with_reducible repeat (first | exact List.Mem.head _ | apply List.Mem.tail));done | (repeat (first | exact List.Mem.head _ | apply List.Mem.tail)))) one3.h rfl ?_
 refine D_bin GC.none (OpV.t rfl) (OpV.t rfl) (fun hg=>bv_eql) ?_
 refine D_move GC.none (OpV.t rfl) ?_
 refine D_fieldAddr (GC.some rfl rfl) (OpV.t rfl) fld136_1.h ?_
 refine D_load (GC.some rfl rfl) (OpV.s rfl) (fun hg=>RdC.blk (by first | (with_reducible repeat (first | exact List.Mem.head _ | apply List.Mem.tail));done | (repeat (first | exact List.Mem.head _ | apply List.Mem.tail)))) one3.h rfl ?_
 refine D_fieldAddr (GC.some rfl rfl) (OpV.t rfl) fld136_1.h ?_
 refine D_load (GC.some rfl rfl) (OpV.s rfl) (fun hg=>RdC.blk (by first | (with_reducible repeat (first | exact List.Mem.head _ | apply List.Mem.tail));done | (repeat (first | exact List.Mem.head _ | apply List.Mem.tail)))) one3.h rfl ?_
 refine D_bin (GC.some rfl rfl) (OpV.s rfl) (OpV.s rfl) (fun hg=>bv_eql) ?_
 refine D_and (cy:=_) GC.none (OpV.t rfl) (OpV.s rfl) (fun h hb=>⟨h,hb⟩) ?_
 refine D_move GC.none (OpV.t rfl) ?_
 refine D_fieldAddr (GC.some rfl rfl) (OpV.t rfl) fld136_2.h ?_
 refine D_load (GC.some rfl rfl) (OpV.s rfl) (fun hg=>RdC.blk (by first | (with_reducible repeat (first | exact List.Mem.head _ | apply List.Mem.tail));done | (repeat (first | exact List.Mem.head _ | apply List.Mem.tail)))) one3.h rfl ?_
 refine D_fieldAddr (GC.some rfl rfl) (OpV.t rfl) fld136_2.h ?_
 refine D_load (GC.some rfl rfl) (OpV.s rfl) (fun hg=>RdC.blk (by first | (with_reducible repeat (first | exact List.Mem.head _ | apply List.Mem.tail));done | (repeat (first | exact List.Mem.head _ | apply List.Mem.tail)))) one3.h rfl ?_
 refine D_bin (GC.some rfl rfl) (OpV.s rfl) (OpV.s rfl) (fun hg=>bv_eql) ?_
 refine D_and (cy:=_) GC.none (OpV.t rfl) (OpV.s rfl) (fun h hb=>⟨h,hb⟩) ?_
 refine D_move GC.none (OpV.t rfl) ?_
 refine D_fieldAddr (GC.some rfl rfl) (OpV.t rfl) fld136_3.h ?_
 refine D_loadW (GC.some rfl rfl) (OpV.s rfl) (fun hg=>RdC.seg (RdC.blk (by first | (with_reducible repeat (first | exact List.Mem.head _ | apply List.Mem.tail));done | (repeat (first | exact List.Mem.head _ | apply List.Mem.tail)))) 3 2 rfl) (by exact agg92.h) ?_
 refine D_fieldAddr (GC.some rfl rfl) (OpV.t rfl) fld136_3.h ?_
 refine D_loadW (GC.some rfl rfl) (OpV.s rfl) (fun hg=>RdC.seg (RdC.blk (by first | (with_reducible repeat (first | exact List.Mem.head _ | apply List.Mem.tail));done | (repeat (first | exact List.Mem.head _ | apply List.Mem.tail)))) 3 2 rfl) (by exact agg92.h) ?_
 refine D_bin (GC.some rfl rfl) (OpV.s rfl) (OpV.s rfl) (fun hg=>(bv_aeql eqsh92 (EqS.consI one3.h und3.h rfl rfl (EqS.consI one3.h und3.h rfl rfl EqS.nil)))) ?_
 refine D_and (cy:=_) GC.none (OpV.t rfl) (OpV.s rfl) (fun h hb=>⟨h,hb⟩) ?_
 refine D_move GC.none (OpV.t rfl) ?_
 refine D_fieldAddr (GC.some rfl rfl) (OpV.t rfl) fld136_4.h ?_
 refine D_load (GC.some rfl rfl) (OpV.s rfl) (fun hg=>RdC.blk (by first | (with_reducible repeat (first | exact List.Mem.head _ | apply List.Mem.tail));done | (repeat (first | exact List.Mem.head _ | apply List.Mem.tail)))) one3.h rfl ?_
 refine D_fieldAddr (GC.some rfl rfl) (OpV.t rfl) fld136_4.h ?_
 refine D_load (GC.some rfl rfl) (OpV.s rfl) (fun hg=>RdC.blk (by first | (with_reducible repeat (first | exact List.Mem.head _ | apply List.Mem.tail));done | (repeat (first | exact List.Mem.head _ | apply List.Mem.tail)))) one3.h rfl ?_
 refine D_bin (GC.some rfl rfl) (OpV.s rfl) (OpV.s rfl) (fun hg=>bv_eql) ?_
 refine D_and (cy:=_) GC.none (OpV.t rfl) (OpV.s rfl) (fun h hb=>⟨h,hb⟩) ?_
 refine D_move GC.none (OpV.t rfl) ?_
 refine D_fieldAddr (GC.some rfl rfl) (OpV.t rfl) fld136_5.h ?_
 refine D_loadW (GC.some rfl rfl) (OpV.s rfl) (fun hg=>RdC.seg (RdC.blk (by first | (with_reducible repeat (first | exact List.Mem.head _ | apply List.Mem.tail));done | (repeat (first | exact List.Mem.head _ | apply List.Mem.tail)))) 6 8 rfl) (by exact agg69.h) ?_
 refine D_fieldAddr (GC.some rfl rfl) (OpV.t rfl) fld136_5.h ?_
 refine D_loadW (GC.some rfl rfl) (OpV.s rfl) (fun hg=>RdC.seg (RdC.blk (by first | (with_reducible repeat (first | exact List.Mem.head _ | apply List.Mem.tail));done | (repeat (first | exact List.Mem.head _ | apply List.Mem.tail)))) 6 8 rfl) (by exact agg69.h) ?_
 refine D_callX (GC.some rfl rfl) fn186.h (OpVs.cons (OpV.s rfl) (OpVs.cons (OpV.s rfl) (OpVs.nil))) (by exact fun hg w F hF hM=>i_SameCmd_walk w (a0_7,a0_8,a0_9,a0_10,a0_11,a0_12,a0_13,a0_14) (a1_7,a1_8,a1_9,a1_10,a1_11,a1_12,a1_13,a1_14) (RdT.nowS (RdT.pair RdT.int (RdT.pair RdT.int (RdT.pair RdT.int (RdT.pair RdT.str (RdT.pair RdT.str (RdT.pair RdT.str (RdT.pair RdT.int (RdT.old h0.2.2.2.2.2.1.2.2.2.2.2.2.2)))))))) hF hM) (RdT.nowS (RdT.pair RdT.int (RdT.pair RdT.int (RdT.pair RdT.int (RdT.pair RdT.str (RdT.pair RdT.str (RdT.pair RdT.str (RdT.pair RdT.int (RdT.old h1.2.2.2.2.2.1.2.2.2.2.2.2.2)))))))) hF hM) _ (hy1 hg.2)) ?_
 refine D_and (cy:=_) GC.none (OpV.t rfl) (OpV.s rfl) (fun h hb=>⟨h,hb⟩) ?_
 refine D_move GC.none (OpV.t rfl) ?_
 refine D_fieldAddr (GC.some rfl rfl) (OpV.t rfl) fld136_6.h ?_
 refine D_load (GC.some rfl rfl) (OpV.s rfl) (fun hg=>RdC.blk (by first | (with_reducible repeat (first | exact List.Mem.head _ | apply List.Mem.tail));done | (repeat (first | exact List.Mem.head _ | apply List.Mem.tail)))) one3.h rfl ?_
 refine D_fieldAddr (GC.some rfl rfl) (OpV.t rfl) fld136_6.h ?_
 refine D_load (GC.some rfl rfl) (OpV.s rfl) (fun hg=>RdC.blk (by first | (with_reducible repeat (first | exact List.Mem.head _ | apply List.Mem.tail));done | (repeat (first | exact List.Mem.head _ | apply List.Mem.tail)))) one3.h rfl ?_
 refine D_bin (GC.some rfl rfl) (OpV.s rfl) (OpV.s rfl) (fun hg=>bv_eql) ?_
 refine D_and (cy:=_) GC.none (OpV.t rfl) (OpV.s rfl) (fun h hb=>⟨h,hb⟩) ?_
 refine D_move GC.none (OpV.t rfl) ?_
 refine D_fieldAddr (GC.some rfl rfl) (OpV.t rfl) fld136_7.h ?_
 refine D_load (GC.some rfl rfl) (OpV.s rfl) (fun hg=>RdC.blk (by first | (with_reducible repeat (first | exact List.Mem.head _ | apply List.Mem.tail));done | (repeat (first | exact List.Mem.head _ | apply List.Mem.tail)))) one85.h rfl ?_
 refine D_fieldAddr (GC.some rfl rfl) (OpV.t rfl) fld136_7.h ?_
 refine D_load (GC.some rfl rfl) (OpV.s rfl) (fun hg=>RdC.blk (by first | (with_reducible repeat (first | exact List.Mem.head _ | apply List.Mem.tail));done | (repeat (first | exact List.Mem.head _ | apply List.Mem.tail)))) one85.h rfl ?_
 refine D_callX (GC.some rfl rfl) fn56.h (OpVs.cons (OpV.s rfl) (OpVs.cons (OpV.s rfl) (OpVs.nil))) (by exact fun hg w F hF hM=>sl_Equal_implIdimplId_walk w a0_16 a1_16 (RdT.nowS (RdT.old h0.2.2.2.2.2.2.2.1) hF hM) (RdT.nowS (RdT.old h1.2.2.2.2.2.2.2.1) hF hM) _ (hy2 hg.2)) ?_
 refine D_and (cy:=_) GC.none (OpV.t rfl) (OpV.s rfl) (fun h hb=>⟨h,hb⟩) ?_
 refine D_move GC.none (OpV.t rfl) ?_
 refine D_fieldAddr (GC.some rfl rfl) (OpV.t rfl) fld136_8.h ?_
 refine D_load (GC.some rfl rfl) (OpV.s rfl) (fun hg=>RdC.blk (by first | (with_reducible repeat (first | exact List.Mem.head _ | apply List.Mem.tail));done | (repeat (first | exact List.Mem.head _ | apply List.Mem.tail)))) one3.h rfl ?_
 refine D_fieldAddr (GC.some rfl rfl) (OpV.t rfl) fld136_8.h ?_
 refine D_load (GC.some rfl rfl) (OpV.s rfl) (fun hg=>RdC.blk (by first | (with_reducible repeat (first | exact List.Mem.head _ | apply List.Mem.tail));done | (repeat (first | exact List.Mem.head _ | apply List.Mem.tail)))) one3.h rfl ?_
 refine D_bin (GC.some rfl rfl) (OpV.s rfl) (OpV.s rfl) (fun hg=>bv_eql) ?_
 refine D_and (cy:=_) GC.none (OpV.t rfl) (OpV.s rfl) (fun h hb=>⟨h,hb⟩) ?_
 refine D_move GC.none (OpV.t rfl) ?_
 refine D_fieldAddr (GC.some rfl rfl) (OpV.t rfl) fld136_9.h ?_
 refine D_load (GC.some rfl rfl) (OpV.s rfl) (fun hg=>RdC.blk (by first | (with_reducible repeat (first | exact List.Mem.head _ | apply List.Mem.tail));done | (repeat (first | exact List.Mem.head _ | apply List.Mem.tail)))) one3.h rfl ?_
 refine D_fieldAddr (GC.some rfl rfl) (OpV.t rfl) fld136_9.h ?_
 refine D_load (GC.some rfl rfl) (OpV.s rfl) (fun hg=>RdC.blk (by first | (with_reducible repeat (first | exact List.Mem.head _ | apply List.Mem.tail));done | (repeat (first | exact List.Mem.head _ | apply List.Mem.tail)))) one3.h rfl ?_
 refine D_bin (GC.some rfl rfl) (OpV.s rfl) (OpV.s rfl) (fun hg=>bv_eql) ?_
 refine D_and (cy:=_) GC.none (OpV.t rfl) (OpV.s rfl) (fun h hb=>⟨h,hb⟩) ?_
 refine D_move GC.none (OpV.t rfl) ?_
 refine D_fieldAddr (GC.some rfl rfl) (OpV.t rfl) fld136_10.h ?_
 refine D_load (GC.some rfl rfl) (OpV.s rfl) (fun hg=>RdC.blk (by first | (with_reducible repeat (first | exact List.Mem.head _ | apply List.Mem.tail));done | (repeat (first | exact List.Mem.head _ | apply List.Mem.tail)))) one4.h rfl ?_
 refine D_fieldAddr (GC.some rfl rfl) (OpV.t rfl) fld136_10.h ?_
 refine D_load (GC.some rfl rfl) (OpV.s rfl) (fun hg=>RdC.blk (by first | (with_reducible repeat (first | exact List.Mem.head _ | apply List.Mem.tail));done | (repeat (first | exact List.Mem.head _ | apply List.Mem.tail)))) one4.h rfl ?_
 refine D_bin (GC.some rfl rfl) (OpV.s rfl) (OpV.s rfl) (fun hg=>(bv_beql und4.h)) ?_
 refine D_and (cy:=_) GC.none (OpV.t rfl) (OpV.s rfl) (fun h hb=>⟨h,hb⟩) ?_
 refine D_assign GC.none (OpV.t rfl) ?_
 refine DV_nil ?_
 refine Give_is rfl rfl ?_
 refine Give_drop rfl ?_
 refine Give_drop rfl ?_
 refine Give_drop rfl ?_
 refine Give_drop rfl ?_
 refine Give_drop rfl ?_
 refine Give_drop rfl ?_
 refine Give_drop rfl ?_
 refine Give_drop rfl ?_
 refine Give_drop rfl ?_
 refine Give_drop rfl ?_
 refine Give_drop rfl ?_
 refine Give_drop rfl ?_
 refine Give_drop rfl ?_
 refine Give_drop rfl ?_
 refine Give_drop rfl ?_
 refine Give_drop rfl ?_
 refine Give_drop rfl ?_
 refine Give_drop rfl ?_
 refine Give_drop rfl ?_
 refine Give_drop rfl ?_
 refine Give_drop rfl ?_
 refine Give_drop rfl ?_
 refine Give_drop rfl ?_
 refine Give_drop rfl ?_
 refine Give_drop rfl ?_
 refine Give_drop rfl ?_
 refine Give_drop rfl ?_
 refine Give_drop rfl ?_
 refine Give_drop rfl ?_
 refine Give_drop rfl ?_
 refine Give_drop rfl ?_
 refine Give_drop rfl ?_
 refine Give_drop rfl ?_
 refine Give_drop rfl ?_
 refine Give_drop rfl ?_
 refine Give_drop rfl ?_
 refine Give_drop rfl ?_
 refine Give_drop rfl ?_
 refine Give_drop rfl ?_
 refine Give_drop rfl ?_
 refine Give_drop rfl ?_
 refine Give_drop rfl ?_
 refine Give_drop rfl ?_
 refine Give_drop rfl ?_
 refine Give_drop rfl ?_
 refine Give_drop rfl ?_
 refine Give_drop rfl ?_
 refine Give_drop rfl ?_
 refine Give_drop rfl ?_
 refine Give_drop rfl ?_
 refine Give_drop rfl ?_
 refine Give_drop rfl ?_
 refine Give_drop rfl ?_
 refine Give_drop rfl ?_
 refine Give_drop rfl ?_
 refine Give_drop rfl ?_
 refine Give_drop rfl ?_
 refine Give_drop rfl ?_
 refine Give_drop rfl ?_
 refine Give_drop rfl ?_
 refine Give_drop rfl ?_
 refine Give_drop rfl ?_
 refine Give_drop rfl ?_
 refine Give_drop rfl ?_
 refine Give_drop rfl ?_
 refine Give_drop rfl ?_
 refine Give_drop rfl ?_
 refine Give_drop rfl ?_
 refine Give_drop rfl ?_
 refine Give_drop rfl ?_
 refine Give_drop rfl ?_
 refine Give_drop rfl ?_
 refine Give_drop rfl ?_
 refine Give_drop rfl ?_
 refine Give_drop rfl ?_
 refine Give_nil ?_
 obtain rfl:=sj hp
 refine W_ret ?_
 refine res1 rfl (ResOK.tmp rfl) ⟨rfl,rfl⟩ (MSub.nil _)
noncomputable def i_hasMsg_c1 (a0:D_EMsg) (c0:D_EMsg):Option Bool :=
 Option.bind (i_SameMsg (a0.1,a0.2.1,a0.2.2.1,(a0.2.2.2.1.1,a0.2.2.2.1.2),a0.2.2.2.2.1,(a0.2.2.2.2.2.1.1,a0.2.2.2.2.2.1.2.1,a0.2.2.2.2.2.1.2.2.1,a0.2.2.2.2.2.1.2.2.2.1,a0.2.2.2.2.2.1.2.2.2.2.1,a0.2.2.2.2.2.1.2.2.2.2.2.1,a0.2.2.2.2.2.1.2.2.2.2.2.2.1,a0.2.2.2.2.2.1.2.2.2.2.2.2.2),a0.2.2.2.2.2.2.1,a0.2.2.2.2.2.2.2.1,a0.2.2.2.2.2.2.2.2.1,a0.2.2.2.2.2.2.2.2.2.1,a0.2.2.2.2.2.2.2.2.2.2) (c0.1,c0.2.1,c0.2.2.1,(c0.2.2.2.1.1,c0.2.2.2.1.2),c0.2.2.2.2.1,(c0.2.2.2.2.2.1.1,c0.2.2.2.2.2.1.2.1,c0.2.2.2.2.2.1.2.2.1,c0.2.2.2.2.2.1.2.2.2.1,c0.2.2.2.2.2.1.2.2.2.2.1,c0.2.2.2.2.2.1.2.2.2.2.2.1,c0.2.2.2.2.2.1.2.2.2.2.2.2.1,c0.2.2.2.2.2.1.2.2.2.2.2.2.2),c0.2.2.2.2.2.2.1,c0.2.2.2.2.2.2.2.1,c0.2.2.2.2.2.2.2.2.1,c0.2.2.2.2.2.2.2.2.2.1,c0.2.2.2.2.2.2.2.2.2.2)) (fun y1=>some y1)
theorem i_hasMsg_c1_walk (w:World) (a0:T_EMsg) (b0:Nat) (c0:T_EMsg) (h0:GT.rd w [] a0) (hb0:Cells w [] b0 0 (GT.cells c0)) (q0:GT.rd w [] c0) (r:Bool) (hp:i_hasMsg_c1 (GT.dat a0) (GT.dat c0)=some r):Spec Tryz.prog 147 ([(.agg (GT.cells a0).toArray:Value)]++[Value.pointer (some ⟨b0,0,none⟩)]).toArray w [] (IsV (.bool r)):=by
 obtain ⟨a0_1,a0_2,a0_3,⟨a0_4,a0_5⟩,a0_6,⟨a0_7,a0_8,a0_9,a0_10,a0_11,a0_12,a0_13,a0_14⟩,a0_15,a0_16,a0_17,a0_18,a0_19⟩:=a0
 obtain ⟨c0_1,c0_2,c0_3,⟨c0_4,c0_5⟩,c0_6,⟨c0_7,c0_8,c0_9,c0_10,c0_11,c0_12,c0_13,c0_14⟩,c0_15,c0_16,c0_17,c0_18,c0_19⟩:=c0
 change Spec _ _ ([Value.agg #[.int .i64 a0_1,.int .i64 a0_2,.int .i64 a0_3,.int .i64 a0_4,.int .i64 a0_5,.int .i64 a0_6,.int .i64 a0_7,.int .i64 a0_8,.int .i64 a0_9,.string a0_10,.string a0_11,.string a0_12,.int .i64 a0_13,(TL.hdr a0_14),.int .i64 a0_15,(TL.hdr a0_16),.int .i64 a0_17,.int .i64 a0_18,.bool a0_19],Value.pointer (some ⟨b0,0,none⟩)]:List Value).toArray w [] _
 refine Spec.intro Tryz.func147 rfl Tryz.ntmps147 rfl ?_
 unfold i_hasMsg_c1 at hp
 replace hp:=dd hp
 refine s2 ?_
 refine bx fun bk2=>?_
 refine s5 ?_
 refine L_loadW rfl rfl (RdC.old hb0) (by exact agg136.h) ?_
 replace hp:=ba hp;obtain ⟨y1,hy1,hp⟩:=hp
 refine L_callX rfl fn148.h rfl (by exact fun w hw=>i_SameMsg_walk w (a0_1,a0_2,a0_3,(a0_4,a0_5),a0_6,(a0_7,a0_8,a0_9,a0_10,a0_11,a0_12,a0_13,a0_14),a0_15,a0_16,a0_17,a0_18,a0_19) (c0_1,c0_2,c0_3,(c0_4,c0_5),c0_6,(c0_7,c0_8,c0_9,c0_10,c0_11,c0_12,c0_13,c0_14),c0_15,c0_16,c0_17,c0_18,c0_19) (RdT.now (RdT.pair RdT.int (RdT.pair RdT.int (RdT.pair RdT.int (RdT.pair (RdT.pair RdT.int RdT.int) (RdT.pair RdT.int (RdT.pair (RdT.pair RdT.int (RdT.pair RdT.int (RdT.pair RdT.int (RdT.pair RdT.str (RdT.pair RdT.str (RdT.pair RdT.str (RdT.pair RdT.int (RdT.old h0.2.2.2.2.2.1.2.2.2.2.2.2.2)))))))) (RdT.pair RdT.int (RdT.pair (RdT.old h0.2.2.2.2.2.2.2.1) (RdT.pair RdT.int (RdT.pair RdT.int RdT.bool)))))))))) hw) (RdT.now (RdT.pair RdT.int (RdT.pair RdT.int (RdT.pair RdT.int (RdT.pair (RdT.pair RdT.int RdT.int) (RdT.pair RdT.int (RdT.pair (RdT.pair RdT.int (RdT.pair RdT.int (RdT.pair RdT.int (RdT.pair RdT.str (RdT.pair RdT.str (RdT.pair RdT.str (RdT.pair RdT.int (RdT.old q0.2.2.2.2.2.1.2.2.2.2.2.2.2)))))))) (RdT.pair RdT.int (RdT.pair (RdT.old q0.2.2.2.2.2.2.2.1) (RdT.pair RdT.int (RdT.pair RdT.int RdT.bool)))))))))) hw) _ hy1) ?_
 refine s2 ?_
 obtain rfl:=sj hp
 refine s1 ?_
 refine res1 rfl (ResOK.tmp rfl) ⟨rfl,rfl⟩ ms
noncomputable def sl_IndexFunc_implEMsgimplEMsg (a0:List D_EMsg) (a1:D_EMsg→Option Bool):Option Int :=
 whileP (fun s1:Int=>cond (decide (s1 < (a0.length:Int))) (Option.bind (idx a0 s1) (fun y3=>Option.bind (a1 (y3.1,y3.2.1,y3.2.2.1,(y3.2.2.2.1.1,y3.2.2.2.1.2),y3.2.2.2.2.1,(y3.2.2.2.2.2.1.1,y3.2.2.2.2.2.1.2.1,y3.2.2.2.2.2.1.2.2.1,y3.2.2.2.2.2.1.2.2.2.1,y3.2.2.2.2.2.1.2.2.2.2.1,y3.2.2.2.2.2.1.2.2.2.2.2.1,y3.2.2.2.2.2.1.2.2.2.2.2.2.1,y3.2.2.2.2.2.1.2.2.2.2.2.2.2),y3.2.2.2.2.2.2.1,y3.2.2.2.2.2.2.2.1,y3.2.2.2.2.2.2.2.2.1,y3.2.2.2.2.2.2.2.2.2.1,y3.2.2.2.2.2.2.2.2.2.2)) (fun y4=>cond y4 (Option.map .inr (some s1)) (some (.inl (IntKind.wrap .i64 (s1+1))))))) (Option.map .inr (some (-1)))) 0
theorem sl_IndexFunc_implEMsgimplEMsg_walk (w:World) (a0:TL T_EMsg) (f1:Nat) (cs1:List Value) (a1:D_EMsg→Option Bool) (h0:GT.rd w [] a0) (hf1:IsFn Tryz.prog f1) (hk1:∀ (w':World) (F:List HP) (u0:T_EMsg) (v:Bool),Holds w [] F w'→GT.rd w' [] u0→a1 (GT.dat u0)=some v→Spec Tryz.prog f1 ([Value.agg (GT.cells u0).toArray]++cs1).toArray w' [] (IsV (.bool v))) (r:Int) (hp:sl_IndexFunc_implEMsgimplEMsg (GT.dat a0) a1=some r):Spec Tryz.prog 209 [(TL.hdr a0),.func (.func f1) #[] cs1.toArray].toArray w [] (IsV (.int .i64 r)):=by
 refine Spec.intro Tryz.func209 rfl Tryz.ntmps209 rfl ?_
 unfold sl_IndexFunc_implEMsgimplEMsg at hp
 replace hp:=dd hp
 refine s12 ?_
 refine W_while (σ:=Int) GT.dat (fun (v1_0:Int)=>[(8,.int .i64 v1_0)]) (fun (v1_0:Int)=>[]) [(0,_),(1,_),(7,_)] [] 0 hp sb ms ?_
 clear hp
 rintro v1_0 x1 hp hx1
 replace hp:=dd hp
 refine kq [0,1,7,8] ?_
 refine s5 ?_
 refine kp [0,1,7,8,9] ?_
 refine W_cond rfl (fun q2=>?_) (fun q2=>?_)
 ·replace hp:=cond_t q2 hp
  refine s13 ?_
  replace hp:=idx_bind hp;obtain ⟨⟨u3_1,u3_2,u3_3,⟨u3_4,u3_5⟩,u3_6,⟨u3_7,u3_8,u3_9,u3_10,u3_11,u3_12,u3_13,u3_14⟩,u3_15,u3_16,u3_17,u3_18,u3_19⟩,hy3,hp⟩:=hp
  refine L_idxA (X:=a0) rfl rfl rfl el54.h (RdT.old h0) hy3 ?_
  refine L_loadW rfl rfl (RdT.at (RdT.old h0) (hy3).2) (by exact agg136.h) ?_
  replace hp:=ba hp;obtain ⟨y4,hy4,hp⟩:=hp
  refine L_callVX rfl rfl hf1 rfl (by exact fun w hw=>hk1 w _ (u3_1,u3_2,u3_3,(u3_4,u3_5),u3_6,(u3_7,u3_8,u3_9,u3_10,u3_11,u3_12,u3_13,u3_14),u3_15,u3_16,u3_17,u3_18,u3_19) y4 hw (RdT.now (RdT.pair RdT.int (RdT.pair RdT.int (RdT.pair RdT.int (RdT.pair (RdT.pair RdT.int RdT.int) (RdT.pair RdT.int (RdT.pair (RdT.pair RdT.int (RdT.pair RdT.int (RdT.pair RdT.int (RdT.pair RdT.str (RdT.pair RdT.str (RdT.pair RdT.str (RdT.pair RdT.int (RdT.snd (RdT.snd (RdT.snd (RdT.snd (RdT.snd (RdT.snd (RdT.snd (RdT.fst (RdT.snd (RdT.snd (RdT.snd (RdT.snd (RdT.snd (RdT.of (RdT.old h0) (hy3).2))))))))))))))))))))) (RdT.pair RdT.int (RdT.pair (RdT.fst (RdT.snd (RdT.snd (RdT.snd (RdT.snd (RdT.snd (RdT.snd (RdT.snd (RdT.of (RdT.old h0) (hy3).2))))))))) (RdT.pair RdT.int (RdT.pair RdT.int RdT.bool)))))))))) hw) hy4) ?_
  refine s1 ?_
  refine kp [0,1,5,7,8,16] ?_
  refine W_cond rfl (fun q5=>?_) (fun q5=>?_)
  ·replace hp:=cond_t q5 hp
   refine s5 ?_
   replace hp:=map_any hp;obtain ⟨a6,hp,z_6⟩:=hp
   obtain rfl:=hx1 _ z_6
   obtain rfl:=sj hp
   refine s1 ?_
   refine res1 rfl (ResOK.tmp rfl) ⟨rfl,rfl⟩ ms
  ·replace hp:=cond_f q5 hp
   refine s5 ?_
   exact ⟨IntKind.wrap .i64 (v1_0+1),sb,(.sub ms),some_eq hp⟩
 ·replace hp:=cond_f q2 hp
  refine W_exit ?_
  replace hp:=map_any hp;obtain ⟨a7,hp,z_7⟩:=hp
  obtain rfl:=hx1 _ z_7
  refine s4 ?_
  obtain rfl:=sj hp
  refine s1 ?_
  refine res1 rfl (ResOK.tmp rfl) ⟨rfl,rfl⟩ ms
noncomputable def sl_ContainsFunc_implEMsgimplEMsg (a0:List D_EMsg) (a1:D_EMsg→Option Bool):Option Bool :=
 Option.bind (sl_IndexFunc_implEMsgimplEMsg a0 a1) (fun y1=>some (decide (0≤y1)))
theorem sl_ContainsFunc_implEMsgimplEMsg_walk (w:World) (a0:TL T_EMsg) (f1:Nat) (cs1:List Value) (a1:D_EMsg→Option Bool) (h0:GT.rd w [] a0) (hf1:IsFn Tryz.prog f1) (hk1:∀ (w':World) (F:List HP) (u0:T_EMsg) (v:Bool),Holds w [] F w'→GT.rd w' [] u0→a1 (GT.dat u0)=some v→Spec Tryz.prog f1 ([Value.agg (GT.cells u0).toArray]++cs1).toArray w' [] (IsV (.bool v))) (r:Bool) (hp:sl_ContainsFunc_implEMsgimplEMsg (GT.dat a0) a1=some r):Spec Tryz.prog 146 [(TL.hdr a0),.func (.func f1) #[] cs1.toArray].toArray w [] (IsV (.bool r)):=by
 refine Spec.intro Tryz.func146 rfl Tryz.ntmps146 rfl ?_
 unfold sl_ContainsFunc_implEMsgimplEMsg at hp
 replace hp:=dd hp
 refine s8 ?_
 replace hp:=ba hp;obtain ⟨y1,hy1,hp⟩:=hp
 refine L_callX rfl fn209.h rfl (by exact fun w hw=>sl_IndexFunc_implEMsgimplEMsg_walk w a0 f1 cs1 a1 (RdT.now (RdT.old h0) hw) hf1 (fun w' F u0 v hF hu0 hv=>hk1 w' _ u0 v (Holds.frame (M1:=[]) (M2:=_) hw hF) hu0 hv) _ hy1) ?_
 refine s3 ?_
 obtain rfl:=sj hp
 refine s1 ?_
 refine res1 rfl (ResOK.tmp rfl) ⟨rfl,rfl⟩ ms
noncomputable def i_hasMsg (a0:List D_EMsg) (a1:D_EMsg):Option Bool :=
 Option.bind (sl_ContainsFunc_implEMsgimplEMsg a0 (fun z0=>i_hasMsg_c1 z0 (a1.1,a1.2.1,a1.2.2.1,(a1.2.2.2.1.1,a1.2.2.2.1.2),a1.2.2.2.2.1,(a1.2.2.2.2.2.1.1,a1.2.2.2.2.2.1.2.1,a1.2.2.2.2.2.1.2.2.1,a1.2.2.2.2.2.1.2.2.2.1,a1.2.2.2.2.2.1.2.2.2.2.1,a1.2.2.2.2.2.1.2.2.2.2.2.1,a1.2.2.2.2.2.1.2.2.2.2.2.2.1,a1.2.2.2.2.2.1.2.2.2.2.2.2.2),a1.2.2.2.2.2.2.1,a1.2.2.2.2.2.2.2.1,a1.2.2.2.2.2.2.2.2.1,a1.2.2.2.2.2.2.2.2.2.1,a1.2.2.2.2.2.2.2.2.2.2))) (fun y1=>some y1)
theorem i_hasMsg_walk (w:World) (a0:TL T_EMsg) (a1:T_EMsg) (h0:GT.rd w [] a0) (h1:GT.rd w [] a1) (r:Bool) (hp:i_hasMsg (GT.dat a0) (GT.dat a1)=some r):Spec Tryz.prog 98 [(TL.hdr a0),.agg (GT.cells a1).toArray].toArray w [] (IsV (.bool r)):=by
 obtain ⟨a1_1,a1_2,a1_3,⟨a1_4,a1_5⟩,a1_6,⟨a1_7,a1_8,a1_9,a1_10,a1_11,a1_12,a1_13,a1_14⟩,a1_15,a1_16,a1_17,a1_18,a1_19⟩:=a1
 change Spec _ _ ([(TL.hdr a0),Value.agg #[.int .i64 a1_1,.int .i64 a1_2,.int .i64 a1_3,.int .i64 a1_4,.int .i64 a1_5,.int .i64 a1_6,.int .i64 a1_7,.int .i64 a1_8,.int .i64 a1_9,.string a1_10,.string a1_11,.string a1_12,.int .i64 a1_13,(TL.hdr a1_14),.int .i64 a1_15,(TL.hdr a1_16),.int .i64 a1_17,.int .i64 a1_18,.bool a1_19]]:List Value).toArray w [] _
 refine Spec.intro Tryz.func98 rfl Tryz.ntmps98 rfl ?_
 unfold i_hasMsg at hp
 replace hp:=dd hp
 refine s2 ?_
 refine bx fun bk3=>?_
 refine s5 ?_
 refine L_makeFunc (fs:=[]) (cs:=[.tmp 3]) rfl rfl rfl ?_
 replace hp:=ba hp;obtain ⟨y1,hy1,hp⟩:=hp
 refine L_callX rfl fn146.h rfl (by exact fun w hw=>sl_ContainsFunc_implEMsgimplEMsg_walk w a0 147 [Value.pointer (some ⟨bk3,0,none⟩)] (fun z0=>i_hasMsg_c1 z0 (a1_1,a1_2,a1_3,(a1_4,a1_5),a1_6,(a1_7,a1_8,a1_9,a1_10,a1_11,a1_12,a1_13,GT.dat a1_14),a1_15,GT.dat a1_16,a1_17,a1_18,a1_19)) (RdT.now (RdT.old h0) hw) fn147.h (fun w' F u0 v hF hu0 hv=>i_hasMsg_c1_walk w' u0 bk3 (a1_1,a1_2,a1_3,(a1_4,a1_5),a1_6,(a1_7,a1_8,a1_9,a1_10,a1_11,a1_12,a1_13,a1_14),a1_15,a1_16,a1_17,a1_18,a1_19) hu0 ((cells_of_blk mm hw.sees).carry hF) (rd_carry (RdT.now (RdT.pair RdT.int (RdT.pair RdT.int (RdT.pair RdT.int (RdT.pair (RdT.pair RdT.int RdT.int) (RdT.pair RdT.int (RdT.pair (RdT.pair RdT.int (RdT.pair RdT.int (RdT.pair RdT.int (RdT.pair RdT.str (RdT.pair RdT.str (RdT.pair RdT.str (RdT.pair RdT.int (RdT.old h1.2.2.2.2.2.1.2.2.2.2.2.2.2)))))))) (RdT.pair RdT.int (RdT.pair (RdT.old h1.2.2.2.2.2.2.2.1) (RdT.pair RdT.int (RdT.pair RdT.int RdT.bool)))))))))) hw) hF) v hv) _ hy1) ?_
 refine s2 ?_
 obtain rfl:=sj hp
 refine s1 ?_
 refine res1 rfl (ResOK.tmp rfl) ⟨rfl,rfl⟩ ms
noncomputable def i_ENetOk (a0:D_ENet):Option Bool :=
 cond ((!decide ((a0.1.length:Int)=3))||(decide (160 < (a0.2.length:Int)))) (some false) (whileP (fun s2:Int=>cond (decide (s2 < (a0.1.length:Int))) (Option.bind (idx a0.1 s2) (fun y4=>Option.bind (i_ENodeOk (y4.1,y4.2.1,y4.2.2.1,y4.2.2.2)) (fun y5=>cond ((!y5)||(!decide (y4.1=s2))) (Option.map .inr (some false)) (some (.inl (IntKind.wrap .i64 (s2+1))))))) (Option.map .inr (whileP (fun s9:Int=>cond (decide (s9 < (a0.2.length:Int))) (Option.bind (idx a0.2 s9) (fun y11=>Option.bind (i_EMsgOk (y11.1,y11.2.1,y11.2.2.1,(y11.2.2.2.1.1,y11.2.2.2.1.2),y11.2.2.2.2.1,(y11.2.2.2.2.2.1.1,y11.2.2.2.2.2.1.2.1,y11.2.2.2.2.2.1.2.2.1,y11.2.2.2.2.2.1.2.2.2.1,y11.2.2.2.2.2.1.2.2.2.2.1,y11.2.2.2.2.2.1.2.2.2.2.2.1,y11.2.2.2.2.2.1.2.2.2.2.2.2.1,y11.2.2.2.2.2.1.2.2.2.2.2.2.2),y11.2.2.2.2.2.2.1,y11.2.2.2.2.2.2.2.1,y11.2.2.2.2.2.2.2.2.1,y11.2.2.2.2.2.2.2.2.2.1,y11.2.2.2.2.2.2.2.2.2.2)) (fun y12=>gb (!(!y12)) (slcP a0.2 0 s9) (fun y14=>gb (!(!y12)) (i_hasMsg y14 (y11.1,y11.2.1,y11.2.2.1,(y11.2.2.2.1.1,y11.2.2.2.1.2),y11.2.2.2.2.1,(y11.2.2.2.2.2.1.1,y11.2.2.2.2.2.1.2.1,y11.2.2.2.2.2.1.2.2.1,y11.2.2.2.2.2.1.2.2.2.1,y11.2.2.2.2.2.1.2.2.2.2.1,y11.2.2.2.2.2.1.2.2.2.2.2.1,y11.2.2.2.2.2.1.2.2.2.2.2.2.1,y11.2.2.2.2.2.1.2.2.2.2.2.2.2),y11.2.2.2.2.2.2.1,y11.2.2.2.2.2.2.2.1,y11.2.2.2.2.2.2.2.2.1,y11.2.2.2.2.2.2.2.2.2.1,y11.2.2.2.2.2.2.2.2.2.2)) (fun y15=>cond ((!y12)||y15) (Option.map .inr (some false)) (some (.inl (IntKind.wrap .i64 (s9+1))))))))) (Option.map .inr (some true))) 0))) 0)
theorem i_ENetOk_walk (w:World) (a0:T_ENet) (h0:GT.rd w [] a0) (r:Bool) (hp:i_ENetOk (GT.dat a0)=some r):Spec Tryz.prog 52 [.agg (GT.cells a0).toArray].toArray w [] (IsV (.bool r)):=by
 obtain ⟨a0_1,a0_2⟩:=a0
 change Spec _ _ ([Value.agg #[(TL.hdr a0_1),(TL.hdr a0_2)]]:List Value).toArray w [] _
 refine Spec.intro Tryz.func52 rfl Tryz.ntmps52 rfl ?_
 unfold i_ENetOk at hp
 replace hp:=dd hp
 refine s2 ?_
 refine bx fun bk1=>?_
 refine s4 ?_
 refine W_D0 [16] mix (by kernel_rfl) rfl ?_
 refine s2 ?_
 refine D_lenP (X:=a0_1) GC.none (OpV.t rfl) el53.h ?_
 refine s4 ?_
 refine D_lenP (X:=a0_2) (GC.some rfl rfl) (OpV.s rfl) el54.h ?_
 refine s14 ?_
 refine kp [1,16] ?_
 refine W_cond rfl (fun q1=>?_) (fun q1=>?_)
 ·replace hp:=cond_t q1 hp
  refine s4 ?_
  obtain rfl:=sj hp
  refine s1 ?_
  refine res1 rfl (ResOK.tmp rfl) ⟨rfl,rfl⟩ ms
 ·replace hp:=cond_f q1 hp
  refine s10 ?_
  refine W_while (σ:=Int) GT.dat (fun (v2_0:Int)=>[(20,.int .i64 v2_0)]) (fun (v2_0:Int)=>[]) [(1,_),(18,_),(19,_)] [blk bk1 _ _] 0 hp sb ms ?_
  clear hp
  rintro v2_0 x2 hp hx2
  replace hp:=dd hp
  refine kq [1,18,19,20] ?_
  refine s5 ?_
  refine kp [1,18,19,20,21] ?_
  refine W_cond rfl (fun q3=>?_) (fun q3=>?_)
  ·replace hp:=cond_t q3 hp
   refine s6 ?_
   replace hp:=idx_bind hp;obtain ⟨⟨u4_1,u4_2,u4_3,u4_4⟩,hy4,hp⟩:=hp
   refine L_idxA (X:=a0_1) rfl rfl rfl el53.h (RdT.old h0.1) hy4 ?_
   refine L_loadW rfl rfl (RdT.at (RdT.old h0.1) (hy4).2) (by exact agg32.h) ?_
   refine al fun bk4=>?_
   refine s4 ?_
   replace hp:=ba hp;obtain ⟨y5,hy5,hp⟩:=hp
   refine W_D0 [33] mix (by kernel_rfl) rfl ?_
   refine s1 ?_
   refine D_callX GC.none fn32.h (OpVs.cons (OpV.t rfl) (OpVs.nil)) (by exact fun hg w F hF hM=>i_ENodeOk_walk w (u4_1,u4_2,u4_3,u4_4) (RdT.nowS (RdT.pair RdT.int (RdT.pair RdT.int (RdT.pair (RdT.fst (RdT.snd (RdT.snd (RdT.of (RdT.old h0.1) (hy4).2)))) (RdT.snd (RdT.snd (RdT.snd (RdT.of (RdT.old h0.1) (hy4).2))))))) hF hM) _ hy5) ?_
   refine s18 ?_
   refine kp [1,18,19,20,33] ?_
   refine W_cond rfl (fun q6=>?_) (fun q6=>?_)
   ·replace hp:=cond_t q6 hp
    refine s4 ?_
    replace hp:=map_any hp;obtain ⟨a7,hp,z_7⟩:=hp
    obtain rfl:=hx2 _ z_7
    obtain rfl:=sj hp
    refine s1 ?_
    refine res1 rfl (ResOK.tmp rfl) ⟨rfl,rfl⟩ ms
   ·replace hp:=cond_f q6 hp
    refine s5 ?_
    exact ⟨IntKind.wrap .i64 (v2_0+1),sb,(.sub ms),some_eq hp⟩
  ·replace hp:=cond_f q3 hp
   refine W_exit ?_
   replace hp:=map_any hp;obtain ⟨a8,hp,z_8⟩:=hp
   obtain rfl:=hx2 _ z_8
   refine s9 ?_
   refine W_while (σ:=Int) GT.dat (fun (v9_0:Int)=>[(38,.int .i64 v9_0)]) (fun (v9_0:Int)=>[]) [(1,_),(36,_),(37,_)] [blk bk1 _ _] 0 hp sb ms ?_
   clear hp
   rintro v9_0 x9 hp hx9
   replace hp:=dd hp
   refine kq [1,36,37,38] ?_
   refine s5 ?_
   refine kp [1,36,37,38,39] ?_
   refine W_cond rfl (fun q10=>?_) (fun q10=>?_)
   ·replace hp:=cond_t q10 hp
    refine s6 ?_
    replace hp:=idx_bind hp;obtain ⟨⟨u11_1,u11_2,u11_3,⟨u11_4,u11_5⟩,u11_6,⟨u11_7,u11_8,u11_9,u11_10,u11_11,u11_12,u11_13,u11_14⟩,u11_15,u11_16,u11_17,u11_18,u11_19⟩,hy11,hp⟩:=hp
    refine L_idxA (X:=a0_2) rfl rfl rfl el54.h (RdT.old h0.2) hy11 ?_
    refine L_loadW rfl rfl (RdT.at (RdT.old h0.2) (hy11).2) (by exact agg136.h) ?_
    refine al fun bk6=>?_
    refine s4 ?_
    replace hp:=ba hp;obtain ⟨y12,hy12,hp⟩:=hp
    replace hp:=gb_anyD hp;obtain ⟨y14,hy14,hny14,hp⟩:=hp
    replace hp:=gb_any hp;obtain ⟨y15,hy15,hp⟩:=hp
    refine W_D0 [53] mix (by kernel_rfl) rfl ?_
    refine s1 ?_
    refine D_callX GC.none fn97.h (OpVs.cons (OpV.t rfl) (OpVs.nil)) (by exact fun hg w F hF hM=>i_EMsgOk_walk w (u11_1,u11_2,u11_3,(u11_4,u11_5),u11_6,(u11_7,u11_8,u11_9,u11_10,u11_11,u11_12,u11_13,u11_14),u11_15,u11_16,u11_17,u11_18,u11_19) (RdT.nowS (RdT.pair RdT.int (RdT.pair RdT.int (RdT.pair RdT.int (RdT.pair (RdT.pair RdT.int RdT.int) (RdT.pair RdT.int (RdT.pair (RdT.pair RdT.int (RdT.pair RdT.int (RdT.pair RdT.int (RdT.pair RdT.str (RdT.pair RdT.str (RdT.pair RdT.str (RdT.pair RdT.int (RdT.snd (RdT.snd (RdT.snd (RdT.snd (RdT.snd (RdT.snd (RdT.snd (RdT.fst (RdT.snd (RdT.snd (RdT.snd (RdT.snd (RdT.snd (RdT.of (RdT.old h0.2) (hy11).2))))))))))))))))))))) (RdT.pair RdT.int (RdT.pair (RdT.fst (RdT.snd (RdT.snd (RdT.snd (RdT.snd (RdT.snd (RdT.snd (RdT.snd (RdT.of (RdT.old h0.2) (hy11).2))))))))) (RdT.pair RdT.int (RdT.pair RdT.int RdT.bool)))))))))) hF hM) _ hy12) ?_
    refine s5 ?_
    refine D_slcG (X:=a0_2) (GC.some rfl rfl) (OpV.s rfl) optD.none (optD.some (OpV.s rfl)) el54.h rfl (RdT.old h0.2) (fun hg=>hy14 (gnot hg.2)) (fun hn=>hny14 (by simpa using hn)) (fun X13 hdX13 hRX13=>?_)
    subst hdX13
    refine s1 ?_
    refine D_callX (GC.some rfl rfl) fn98.h (OpVs.cons (OpV.s rfl) (OpVs.cons (OpV.s rfl) (OpVs.nil))) (by exact fun hg w F hF hM=>i_hasMsg_walk w X13 (u11_1,u11_2,u11_3,(u11_4,u11_5),u11_6,(u11_7,u11_8,u11_9,u11_10,u11_11,u11_12,u11_13,u11_14),u11_15,u11_16,u11_17,u11_18,u11_19) (RdT.nowS (RdT.map hRX13 (RdT.old h0.2)) hF hM) (RdT.nowS (RdT.pair RdT.int (RdT.pair RdT.int (RdT.pair RdT.int (RdT.pair (RdT.pair RdT.int RdT.int) (RdT.pair RdT.int (RdT.pair (RdT.pair RdT.int (RdT.pair RdT.int (RdT.pair RdT.int (RdT.pair RdT.str (RdT.pair RdT.str (RdT.pair RdT.str (RdT.pair RdT.int (RdT.snd (RdT.snd (RdT.snd (RdT.snd (RdT.snd (RdT.snd (RdT.snd (RdT.fst (RdT.snd (RdT.snd (RdT.snd (RdT.snd (RdT.snd (RdT.of (RdT.old h0.2) (hy11).2))))))))))))))))))))) (RdT.pair RdT.int (RdT.pair (RdT.fst (RdT.snd (RdT.snd (RdT.snd (RdT.snd (RdT.snd (RdT.snd (RdT.snd (RdT.of (RdT.old h0.2) (hy11).2))))))))) (RdT.pair RdT.int (RdT.pair RdT.int RdT.bool)))))))))) hF hM) _ (hy15 (gnot hg.2))) ?_
    refine s14 ?_
    refine kp [1,36,37,38,53] ?_
    refine W_cond rfl (fun q16=>?_) (fun q16=>?_)
    ·replace hp:=cond_t q16 hp
     refine s4 ?_
     replace hp:=map_any hp;obtain ⟨a17,hp,z_17⟩:=hp
     obtain rfl:=hx9 _ z_17
     obtain rfl:=sj hp
     refine s1 ?_
     refine res1 rfl (ResOK.tmp rfl) ⟨rfl,rfl⟩ ms
    ·replace hp:=cond_f q16 hp
     refine s5 ?_
     exact ⟨IntKind.wrap .i64 (v9_0+1),sb,(.sub ms),some_eq hp⟩
   ·replace hp:=cond_f q10 hp
    refine W_exit ?_
    replace hp:=map_any hp;obtain ⟨a18,hp,z_18⟩:=hp
    obtain rfl:=hx9 _ z_18
    refine s4 ?_
    obtain rfl:=sj hp
    refine s1 ?_
    refine res1 rfl (ResOK.tmp rfl) ⟨rfl,rfl⟩ ms
end Go.Proofs.SL
