/- The texts of the proof, part 14: the base, walks of functions, plain Lean. -/
import Derived.Test.YthlbpedehajlgaaGreatT5
import Derived.Test.YthlbpedehajlgaaGreatT13
import Derived.Test.YthlbpedehajlgaaGreatT9
namespace Go.Proofs.SL
open Go
section
variable {Γ:Cx} {rest:List Oper} {d:Nat} {ty:TypeId} {pos:String} {af:Array Edge}
variable {ops:Array Oper} {Msh pool:List HP} {E:Fl} {rs:List (Option Nat×Rel)} {cs0:List Nat} {KD:RKont}
end
end Go.Proofs.SL
namespace Go.Proofs.SL
open Go
set_option maxHeartbeats 2000000
instance:Inhabited T_EMsg:=⟨(0,0,0,(0,0),0,(0,0,0,ByteArray.empty,ByteArray.empty,ByteArray.empty,0,TL.nil ByteArray 0),0,TL.nil T_Id 0,0,0,false)⟩
abbrev D_ENet:=(List D_ENode)×(List D_EMsg)
abbrev D_EAct:=Int×Int×Int×D_Id×D_Cmd
instance und4:UndF Tryz.prog 4 (.bool):=⟨by kernel_rfl⟩
instance fn143:FnF Tryz.prog 143:=⟨_,Tryz.func143,by kernel_rfl,rfl⟩
instance fld29_0:FldF Tryz.prog 29 0 0:=⟨by kernel_rfl⟩
instance one26:OneF Tryz.prog 26:=⟨by kernel_rfl⟩
instance el26:ElF Tryz.prog 26 44 4 64 [.int .i64 0,.int .i64 0,.slice none 0 0,.slice none 0 0]:=⟨by kernel_rfl⟩
instance fld29_1:FldF Tryz.prog 29 1 1:=⟨by kernel_rfl⟩
instance one27:OneF Tryz.prog 27:=⟨by kernel_rfl⟩
instance fn90:FnF Tryz.prog 90:=⟨_,Tryz.func90,by kernel_rfl,rfl⟩
instance zero29:ZerF Tryz.prog 29 [.slice none 0 0,.slice none 0 0]:=⟨by kernel_rfl⟩
instance bld29:BldF Tryz.prog 29 [(0,1),(1,1)] [.slice none 0 0,.slice none 0 0]:=⟨by kernel_rfl⟩
instance agg29:AggF Tryz.prog 29 2:=⟨by kernel_rfl⟩
instance fld40_0:FldF Tryz.prog 40 0 0:=⟨by kernel_rfl⟩
instance fld40_2:FldF Tryz.prog 40 2 2:=⟨by kernel_rfl⟩
instance fld40_1:FldF Tryz.prog 40 1 1:=⟨by kernel_rfl⟩
instance fld40_4:FldF Tryz.prog 40 4 5:=⟨by kernel_rfl⟩
instance fld40_3:FldF Tryz.prog 40 3 3:=⟨by kernel_rfl⟩
instance agg40:AggF Tryz.prog 40 13:=⟨by kernel_rfl⟩
instance el24:ElF Tryz.prog 24 40 13 144 [.int .i64 0,.int .i64 0,.int .i64 0,.int .i64 0,.int .i64 0,.int .i64 0,.int .i64 0,.int .i64 0,.string ByteArray.empty,.string ByteArray.empty,.string ByteArray.empty,.int .i64 0,.slice none 0 0]:=⟨by kernel_rfl⟩
noncomputable def s_SameMsg (a0:D_EMsg) (a1:D_EMsg):Option Bool :=
 gb (((((decide (a0.1=a1.1))&&(decide (a0.2.1=a1.2.1)))&&(decide (a0.2.2.1=a1.2.2.1)))&&(decide (a0.2.2.2.1.1=a1.2.2.2.1.1)&&(decide (a0.2.2.2.1.2=a1.2.2.2.1.2)&&true)))&&(decide (a0.2.2.2.2.1=a1.2.2.2.2.1))) (s_SameCmd (a0.2.2.2.2.2.1.1,a0.2.2.2.2.2.1.2.1,a0.2.2.2.2.2.1.2.2.1,a0.2.2.2.2.2.1.2.2.2.1,a0.2.2.2.2.2.1.2.2.2.2.1,a0.2.2.2.2.2.1.2.2.2.2.2.1,a0.2.2.2.2.2.1.2.2.2.2.2.2.1,a0.2.2.2.2.2.1.2.2.2.2.2.2.2) (a1.2.2.2.2.2.1.1,a1.2.2.2.2.2.1.2.1,a1.2.2.2.2.2.1.2.2.1,a1.2.2.2.2.2.1.2.2.2.1,a1.2.2.2.2.2.1.2.2.2.2.1,a1.2.2.2.2.2.1.2.2.2.2.2.1,a1.2.2.2.2.2.1.2.2.2.2.2.2.1,a1.2.2.2.2.2.1.2.2.2.2.2.2.2)) (fun y1=>gb (((((((decide (a0.1=a1.1))&&(decide (a0.2.1=a1.2.1)))&&(decide (a0.2.2.1=a1.2.2.1)))&&(decide (a0.2.2.2.1.1=a1.2.2.2.1.1)&&(decide (a0.2.2.2.1.2=a1.2.2.2.1.2)&&true)))&&(decide (a0.2.2.2.2.1=a1.2.2.2.2.1)))&&y1)&&(decide (a0.2.2.2.2.2.2.1=a1.2.2.2.2.2.2.1))) (s_l9Alike a0.2.2.2.2.2.2.2.1 a1.2.2.2.2.2.2.2.1) (fun y2=>some (((((((((((decide (a0.1=a1.1))&&(decide (a0.2.1=a1.2.1)))&&(decide (a0.2.2.1=a1.2.2.1)))&&(decide (a0.2.2.2.1.1=a1.2.2.2.1.1)&&(decide (a0.2.2.2.1.2=a1.2.2.2.1.2)&&true)))&&(decide (a0.2.2.2.2.1=a1.2.2.2.2.1)))&&y1)&&(decide (a0.2.2.2.2.2.2.1=a1.2.2.2.2.2.2.1)))&&y2)&&(decide (a0.2.2.2.2.2.2.2.2.1=a1.2.2.2.2.2.2.2.2.1)))&&(decide (a0.2.2.2.2.2.2.2.2.2.1=a1.2.2.2.2.2.2.2.2.2.1)))&&(a0.2.2.2.2.2.2.2.2.2.2 == a1.2.2.2.2.2.2.2.2.2.2))))
theorem s_SameMsg_walk (w:World) (a0:T_EMsg) (a1:T_EMsg) (h0:GT.rd w [] a0) (h1:GT.rd w [] a1) (r:Bool) (hp:s_SameMsg (GT.dat a0) (GT.dat a1)=some r):Spec Tryz.prog 143 [.agg (GT.cells a0).toArray,.agg (GT.cells a1).toArray].toArray w [] (IsV (.bool r)):=by
 obtain ⟨a0_1,a0_2,a0_3,⟨a0_4,a0_5⟩,a0_6,⟨a0_7,a0_8,a0_9,a0_10,a0_11,a0_12,a0_13,a0_14⟩,a0_15,a0_16,a0_17,a0_18,a0_19⟩:=a0
 obtain ⟨a1_1,a1_2,a1_3,⟨a1_4,a1_5⟩,a1_6,⟨a1_7,a1_8,a1_9,a1_10,a1_11,a1_12,a1_13,a1_14⟩,a1_15,a1_16,a1_17,a1_18,a1_19⟩:=a1
 change Spec _ _ ([Value.agg #[.int .i64 a0_1,.int .i64 a0_2,.int .i64 a0_3,.int .i64 a0_4,.int .i64 a0_5,.int .i64 a0_6,.int .i64 a0_7,.int .i64 a0_8,.int .i64 a0_9,.string a0_10,.string a0_11,.string a0_12,.int .i64 a0_13,(TL.hdr a0_14),.int .i64 a0_15,(TL.hdr a0_16),.int .i64 a0_17,.int .i64 a0_18,.bool a0_19],Value.agg #[.int .i64 a1_1,.int .i64 a1_2,.int .i64 a1_3,.int .i64 a1_4,.int .i64 a1_5,.int .i64 a1_6,.int .i64 a1_7,.int .i64 a1_8,.int .i64 a1_9,.string a1_10,.string a1_11,.string a1_12,.int .i64 a1_13,(TL.hdr a1_14),.int .i64 a1_15,(TL.hdr a1_16),.int .i64 a1_17,.int .i64 a1_18,.bool a1_19]]:List Value).toArray w [] _
 refine Spec.intro Tryz.func143 rfl Tryz.ntmps143 rfl ?_
 unfold s_SameMsg at hp
 try dsimp only [dat_pair,dat_int,dat_bool,dat_str,dat_ar] at hp
 refine W_seq ?_
 refine W_region ?_
 refine L_box rfl rfl (fun bk2=>?_)
 refine L_box rfl rfl (fun bk3=>?_)
 refine L_assign rfl rfl ?_
 refine L_nil ?_
 refine W_seq ?_
 have ho:=hp;clear hp;obtain ⟨y1,hy1,hp⟩:=gb_any ho;clear ho
 have ho:=hp;clear hp;obtain ⟨y2,hy2,hp⟩:=gb_any ho;clear ho
 refine W_D0 [4] mix (by kernel_rfl) rfl ?_
 refine D_fieldAddr GC.none (OpV.t rfl) fld103_0.h ?_
 refine D_load GC.none (OpV.t rfl) (fun hg=>RdC.blk (by first | (with_reducible repeat (first | exact List.Mem.head _ | apply List.Mem.tail));done | (repeat (first | exact List.Mem.head _ | apply List.Mem.tail)))) one3.h rfl ?_
 refine D_fieldAddr GC.none (OpV.t rfl) fld103_0.h ?_
 refine D_load GC.none (OpV.t rfl) (fun hg=>RdC.blk (by first | (with_reducible repeat (first | exact List.Mem.head _ | apply List.Mem.tail));done | (repeat (first | exact List.Mem.head _ | apply List.Mem.tail)))) one3.h rfl ?_
 refine D_bin GC.none (OpV.t rfl) (OpV.t rfl) (fun hg=>bv_eql) ?_
 refine D_move GC.none (OpV.t rfl) ?_
 refine D_fieldAddr (GC.some rfl rfl) (OpV.t rfl) fld103_1.h ?_
 refine D_load (GC.some rfl rfl) (OpV.s rfl) (fun hg=>RdC.blk (by first | (with_reducible repeat (first | exact List.Mem.head _ | apply List.Mem.tail));done | (repeat (first | exact List.Mem.head _ | apply List.Mem.tail)))) one3.h rfl ?_
 refine D_fieldAddr (GC.some rfl rfl) (OpV.t rfl) fld103_1.h ?_
 refine D_load (GC.some rfl rfl) (OpV.s rfl) (fun hg=>RdC.blk (by first | (with_reducible repeat (first | exact List.Mem.head _ | apply List.Mem.tail));done | (repeat (first | exact List.Mem.head _ | apply List.Mem.tail)))) one3.h rfl ?_
 refine D_bin (GC.some rfl rfl) (OpV.s rfl) (OpV.s rfl) (fun hg=>bv_eql) ?_
 refine D_and (cy:=_) GC.none (OpV.t rfl) (OpV.s rfl) (fun h hb=>⟨h,hb⟩) ?_
 refine D_move GC.none (OpV.t rfl) ?_
 refine D_fieldAddr (GC.some rfl rfl) (OpV.t rfl) fld103_2.h ?_
 refine D_load (GC.some rfl rfl) (OpV.s rfl) (fun hg=>RdC.blk (by first | (with_reducible repeat (first | exact List.Mem.head _ | apply List.Mem.tail));done | (repeat (first | exact List.Mem.head _ | apply List.Mem.tail)))) one3.h rfl ?_
 refine D_fieldAddr (GC.some rfl rfl) (OpV.t rfl) fld103_2.h ?_
 refine D_load (GC.some rfl rfl) (OpV.s rfl) (fun hg=>RdC.blk (by first | (with_reducible repeat (first | exact List.Mem.head _ | apply List.Mem.tail));done | (repeat (first | exact List.Mem.head _ | apply List.Mem.tail)))) one3.h rfl ?_
 refine D_bin (GC.some rfl rfl) (OpV.s rfl) (OpV.s rfl) (fun hg=>bv_eql) ?_
 refine D_and (cy:=_) GC.none (OpV.t rfl) (OpV.s rfl) (fun h hb=>⟨h,hb⟩) ?_
 refine D_move GC.none (OpV.t rfl) ?_
 refine D_fieldAddr (GC.some rfl rfl) (OpV.t rfl) fld103_3.h ?_
 refine D_loadW (GC.some rfl rfl) (OpV.s rfl) (fun hg=>RdC.seg (RdC.blk (by first | (with_reducible repeat (first | exact List.Mem.head _ | apply List.Mem.tail));done | (repeat (first | exact List.Mem.head _ | apply List.Mem.tail)))) 3 2 rfl) (by exact agg35.h) ?_
 refine D_fieldAddr (GC.some rfl rfl) (OpV.t rfl) fld103_3.h ?_
 refine D_loadW (GC.some rfl rfl) (OpV.s rfl) (fun hg=>RdC.seg (RdC.blk (by first | (with_reducible repeat (first | exact List.Mem.head _ | apply List.Mem.tail));done | (repeat (first | exact List.Mem.head _ | apply List.Mem.tail)))) 3 2 rfl) (by exact agg35.h) ?_
 refine D_bin (GC.some rfl rfl) (OpV.s rfl) (OpV.s rfl) (fun hg=>(bv_aeql eqsh35 (EqS.consI one3.h und3.h rfl rfl (EqS.consI one3.h und3.h rfl rfl EqS.nil)))) ?_
 refine D_and (cy:=_) GC.none (OpV.t rfl) (OpV.s rfl) (fun h hb=>⟨h,hb⟩) ?_
 refine D_move GC.none (OpV.t rfl) ?_
 refine D_fieldAddr (GC.some rfl rfl) (OpV.t rfl) fld103_4.h ?_
 refine D_load (GC.some rfl rfl) (OpV.s rfl) (fun hg=>RdC.blk (by first | (with_reducible repeat (first | exact List.Mem.head _ | apply List.Mem.tail));done | (repeat (first | exact List.Mem.head _ | apply List.Mem.tail)))) one3.h rfl ?_
 refine D_fieldAddr (GC.some rfl rfl) (OpV.t rfl) fld103_4.h ?_
 refine D_load (GC.some rfl rfl) (OpV.s rfl) (fun hg=>RdC.blk (by first | (with_reducible repeat (first | exact List.Mem.head _ | apply List.Mem.tail));done | (repeat (first | exact List.Mem.head _ | apply List.Mem.tail)))) one3.h rfl ?_
 refine D_bin (GC.some rfl rfl) (OpV.s rfl) (OpV.s rfl) (fun hg=>bv_eql) ?_
 refine D_and (cy:=_) GC.none (OpV.t rfl) (OpV.s rfl) (fun h hb=>⟨h,hb⟩) ?_
 refine D_move GC.none (OpV.t rfl) ?_
 refine D_fieldAddr (GC.some rfl rfl) (OpV.t rfl) fld103_5.h ?_
 refine D_loadW (GC.some rfl rfl) (OpV.s rfl) (fun hg=>RdC.seg (RdC.blk (by first | (with_reducible repeat (first | exact List.Mem.head _ | apply List.Mem.tail));done | (repeat (first | exact List.Mem.head _ | apply List.Mem.tail)))) 6 8 rfl) (by exact agg38.h) ?_
 refine D_fieldAddr (GC.some rfl rfl) (OpV.t rfl) fld103_5.h ?_
 refine D_loadW (GC.some rfl rfl) (OpV.s rfl) (fun hg=>RdC.seg (RdC.blk (by first | (with_reducible repeat (first | exact List.Mem.head _ | apply List.Mem.tail));done | (repeat (first | exact List.Mem.head _ | apply List.Mem.tail)))) 6 8 rfl) (by exact agg38.h) ?_
 refine D_callX (GC.some rfl rfl) fn19.h (OpVs.cons (OpV.s rfl) (OpVs.cons (OpV.s rfl) (OpVs.nil))) (by exact fun hg w F hF hM=>s_SameCmd_walk w (a0_7,a0_8,a0_9,a0_10,a0_11,a0_12,a0_13,a0_14) (a1_7,a1_8,a1_9,a1_10,a1_11,a1_12,a1_13,a1_14) (RdT.nowS (RdT.pair RdT.int (RdT.pair RdT.int (RdT.pair RdT.int (RdT.pair RdT.str (RdT.pair RdT.str (RdT.pair RdT.str (RdT.pair RdT.int (RdT.old h0.2.2.2.2.2.1.2.2.2.2.2.2.2)))))))) hF hM) (RdT.nowS (RdT.pair RdT.int (RdT.pair RdT.int (RdT.pair RdT.int (RdT.pair RdT.str (RdT.pair RdT.str (RdT.pair RdT.str (RdT.pair RdT.int (RdT.old h1.2.2.2.2.2.1.2.2.2.2.2.2.2)))))))) hF hM) _ (hy1 hg.2)) ?_
 refine D_and (cy:=_) GC.none (OpV.t rfl) (OpV.s rfl) (fun h hb=>⟨h,hb⟩) ?_
 refine D_move GC.none (OpV.t rfl) ?_
 refine D_fieldAddr (GC.some rfl rfl) (OpV.t rfl) fld103_6.h ?_
 refine D_load (GC.some rfl rfl) (OpV.s rfl) (fun hg=>RdC.blk (by first | (with_reducible repeat (first | exact List.Mem.head _ | apply List.Mem.tail));done | (repeat (first | exact List.Mem.head _ | apply List.Mem.tail)))) one3.h rfl ?_
 refine D_fieldAddr (GC.some rfl rfl) (OpV.t rfl) fld103_6.h ?_
 refine D_load (GC.some rfl rfl) (OpV.s rfl) (fun hg=>RdC.blk (by first | (with_reducible repeat (first | exact List.Mem.head _ | apply List.Mem.tail));done | (repeat (first | exact List.Mem.head _ | apply List.Mem.tail)))) one3.h rfl ?_
 refine D_bin (GC.some rfl rfl) (OpV.s rfl) (OpV.s rfl) (fun hg=>bv_eql) ?_
 refine D_and (cy:=_) GC.none (OpV.t rfl) (OpV.s rfl) (fun h hb=>⟨h,hb⟩) ?_
 refine D_move GC.none (OpV.t rfl) ?_
 refine D_fieldAddr (GC.some rfl rfl) (OpV.t rfl) fld103_7.h ?_
 refine D_load (GC.some rfl rfl) (OpV.s rfl) (fun hg=>RdC.blk (by first | (with_reducible repeat (first | exact List.Mem.head _ | apply List.Mem.tail));done | (repeat (first | exact List.Mem.head _ | apply List.Mem.tail)))) one31.h rfl ?_
 refine D_fieldAddr (GC.some rfl rfl) (OpV.t rfl) fld103_7.h ?_
 refine D_load (GC.some rfl rfl) (OpV.s rfl) (fun hg=>RdC.blk (by first | (with_reducible repeat (first | exact List.Mem.head _ | apply List.Mem.tail));done | (repeat (first | exact List.Mem.head _ | apply List.Mem.tail)))) one31.h rfl ?_
 refine D_callX (GC.some rfl rfl) fn43.h (OpVs.cons (OpV.s rfl) (OpVs.cons (OpV.s rfl) (OpVs.nil))) (by exact fun hg w F hF hM=>s_l9Alike_walk w a0_16 a1_16 (RdT.nowS (RdT.old h0.2.2.2.2.2.2.2.1) hF hM) (RdT.nowS (RdT.old h1.2.2.2.2.2.2.2.1) hF hM) _ (hy2 hg.2)) ?_
 refine D_and (cy:=_) GC.none (OpV.t rfl) (OpV.s rfl) (fun h hb=>⟨h,hb⟩) ?_
 refine D_move GC.none (OpV.t rfl) ?_
 refine D_fieldAddr (GC.some rfl rfl) (OpV.t rfl) fld103_8.h ?_
 refine D_load (GC.some rfl rfl) (OpV.s rfl) (fun hg=>RdC.blk (by first | (with_reducible repeat (first | exact List.Mem.head _ | apply List.Mem.tail));done | (repeat (first | exact List.Mem.head _ | apply List.Mem.tail)))) one3.h rfl ?_
 refine D_fieldAddr (GC.some rfl rfl) (OpV.t rfl) fld103_8.h ?_
 refine D_load (GC.some rfl rfl) (OpV.s rfl) (fun hg=>RdC.blk (by first | (with_reducible repeat (first | exact List.Mem.head _ | apply List.Mem.tail));done | (repeat (first | exact List.Mem.head _ | apply List.Mem.tail)))) one3.h rfl ?_
 refine D_bin (GC.some rfl rfl) (OpV.s rfl) (OpV.s rfl) (fun hg=>bv_eql) ?_
 refine D_and (cy:=_) GC.none (OpV.t rfl) (OpV.s rfl) (fun h hb=>⟨h,hb⟩) ?_
 refine D_move GC.none (OpV.t rfl) ?_
 refine D_fieldAddr (GC.some rfl rfl) (OpV.t rfl) fld103_9.h ?_
 refine D_load (GC.some rfl rfl) (OpV.s rfl) (fun hg=>RdC.blk (by first | (with_reducible repeat (first | exact List.Mem.head _ | apply List.Mem.tail));done | (repeat (first | exact List.Mem.head _ | apply List.Mem.tail)))) one3.h rfl ?_
 refine D_fieldAddr (GC.some rfl rfl) (OpV.t rfl) fld103_9.h ?_
 refine D_load (GC.some rfl rfl) (OpV.s rfl) (fun hg=>RdC.blk (by first | (with_reducible repeat (first | exact List.Mem.head _ | apply List.Mem.tail));done | (repeat (first | exact List.Mem.head _ | apply List.Mem.tail)))) one3.h rfl ?_
 refine D_bin (GC.some rfl rfl) (OpV.s rfl) (OpV.s rfl) (fun hg=>bv_eql) ?_
 refine D_and (cy:=_) GC.none (OpV.t rfl) (OpV.s rfl) (fun h hb=>⟨h,hb⟩) ?_
 refine D_move GC.none (OpV.t rfl) ?_
 refine D_fieldAddr (GC.some rfl rfl) (OpV.t rfl) fld103_10.h ?_
 refine D_load (GC.some rfl rfl) (OpV.s rfl) (fun hg=>RdC.blk (by first | (with_reducible repeat (first | exact List.Mem.head _ | apply List.Mem.tail));done | (repeat (first | exact List.Mem.head _ | apply List.Mem.tail)))) one4.h rfl ?_
 refine D_fieldAddr (GC.some rfl rfl) (OpV.t rfl) fld103_10.h ?_
 refine D_load (GC.some rfl rfl) (OpV.s rfl) (fun hg=>RdC.blk (by first | (with_reducible repeat (first | exact List.Mem.head _ | apply List.Mem.tail));done | (repeat (first | exact List.Mem.head _ | apply List.Mem.tail)))) one4.h rfl ?_
 refine D_bin (GC.some rfl rfl) (OpV.s rfl) (OpV.s rfl) (fun hg=>(bv_beql und4.h)) ?_
 refine D_and (cy:=_) GC.none (OpV.t rfl) (OpV.s rfl) (fun h hb=>⟨h,hb⟩) ?_
 refine D_assign GC.none (OpV.t rfl) ?_
 refine DV_nil ?_
 refine Give_is rfl rfl ?_
 refine Give_drop rfl ?_
 refine Give_drop rfl ?_
 refine Give_drop rfl ?_
 refine Give_drop rfl ?_
 refine Give_drop rfl ?_
 refine Give_drop rfl ?_
 refine Give_drop rfl ?_
 refine Give_drop rfl ?_
 refine Give_drop rfl ?_
 refine Give_drop rfl ?_
 refine Give_drop rfl ?_
 refine Give_drop rfl ?_
 refine Give_drop rfl ?_
 refine Give_drop rfl ?_
 refine Give_drop rfl ?_
 refine Give_drop rfl ?_
 refine Give_drop rfl ?_
 refine Give_drop rfl ?_
 refine Give_drop rfl ?_
 refine Give_drop rfl ?_
 refine Give_drop rfl ?_
 refine Give_drop rfl ?_
 refine Give_drop rfl ?_
 refine Give_drop rfl ?_
 refine Give_drop rfl ?_
 refine Give_drop rfl ?_
 refine Give_drop rfl ?_
 refine Give_drop rfl ?_
 refine Give_drop rfl ?_
 refine Give_drop rfl ?_
 refine Give_drop rfl ?_
 refine Give_drop rfl ?_
 refine Give_drop rfl ?_
 refine Give_drop rfl ?_
 refine Give_drop rfl ?_
 refine Give_drop rfl ?_
 refine Give_drop rfl ?_
 refine Give_drop rfl ?_
 refine Give_drop rfl ?_
 refine Give_drop rfl ?_
 refine Give_drop rfl ?_
 refine Give_drop rfl ?_
 refine Give_drop rfl ?_
 refine Give_drop rfl ?_
 refine Give_drop rfl ?_
 refine Give_drop rfl ?_
 refine Give_drop rfl ?_
 refine Give_drop rfl ?_
 refine Give_drop rfl ?_
 refine Give_drop rfl ?_
 refine Give_drop rfl ?_
 refine Give_drop rfl ?_
 refine Give_drop rfl ?_
 refine Give_drop rfl ?_
 refine Give_drop rfl ?_
 refine Give_drop rfl ?_
 refine Give_drop rfl ?_
 refine Give_drop rfl ?_
 refine Give_drop rfl ?_
 refine Give_drop rfl ?_
 refine Give_drop rfl ?_
 refine Give_drop rfl ?_
 refine Give_drop rfl ?_
 refine Give_drop rfl ?_
 refine Give_drop rfl ?_
 refine Give_drop rfl ?_
 refine Give_drop rfl ?_
 refine Give_drop rfl ?_
 refine Give_drop rfl ?_
 refine Give_drop rfl ?_
 refine Give_drop rfl ?_
 refine Give_drop rfl ?_
 refine Give_drop rfl ?_
 refine Give_drop rfl ?_
 refine Give_drop rfl ?_
 refine Give_nil ?_
 obtain rfl:=sj hp
 refine W_ret ?_
 refine res1 rfl (ResOK.tmp rfl) ⟨rfl,rfl⟩ (MSub.nil _)
noncomputable def s_l11Has (a0:List D_EMsg) (a1:D_EMsg):Option Bool :=
 whileP (fun s1:Int=>cond (decide (s1 < (a0.length:Int))) (Option.bind (idx a0 s1) (fun y3=>Option.bind (s_SameMsg (y3.1,y3.2.1,y3.2.2.1,(y3.2.2.2.1.1,y3.2.2.2.1.2),y3.2.2.2.2.1,(y3.2.2.2.2.2.1.1,y3.2.2.2.2.2.1.2.1,y3.2.2.2.2.2.1.2.2.1,y3.2.2.2.2.2.1.2.2.2.1,y3.2.2.2.2.2.1.2.2.2.2.1,y3.2.2.2.2.2.1.2.2.2.2.2.1,y3.2.2.2.2.2.1.2.2.2.2.2.2.1,y3.2.2.2.2.2.1.2.2.2.2.2.2.2),y3.2.2.2.2.2.2.1,y3.2.2.2.2.2.2.2.1,y3.2.2.2.2.2.2.2.2.1,y3.2.2.2.2.2.2.2.2.2.1,y3.2.2.2.2.2.2.2.2.2.2) (a1.1,a1.2.1,a1.2.2.1,(a1.2.2.2.1.1,a1.2.2.2.1.2),a1.2.2.2.2.1,(a1.2.2.2.2.2.1.1,a1.2.2.2.2.2.1.2.1,a1.2.2.2.2.2.1.2.2.1,a1.2.2.2.2.2.1.2.2.2.1,a1.2.2.2.2.2.1.2.2.2.2.1,a1.2.2.2.2.2.1.2.2.2.2.2.1,a1.2.2.2.2.2.1.2.2.2.2.2.2.1,a1.2.2.2.2.2.1.2.2.2.2.2.2.2),a1.2.2.2.2.2.2.1,a1.2.2.2.2.2.2.2.1,a1.2.2.2.2.2.2.2.2.1,a1.2.2.2.2.2.2.2.2.2.1,a1.2.2.2.2.2.2.2.2.2.2)) (fun y4=>cond y4 (Option.map .inr (some true)) (some (.inl (IntKind.wrap .i64 (s1+1))))))) (Option.map .inr (some false))) 0
theorem s_l11Has_walk (w:World) (a0:TL T_EMsg) (a1:T_EMsg) (h0:GT.rd w [] a0) (h1:GT.rd w [] a1) (r:Bool) (hp:s_l11Has (GT.dat a0) (GT.dat a1)=some r):Spec Tryz.prog 90 [(TL.hdr a0),.agg (GT.cells a1).toArray].toArray w [] (IsV (.bool r)):=by
 obtain ⟨a1_1,a1_2,a1_3,⟨a1_4,a1_5⟩,a1_6,⟨a1_7,a1_8,a1_9,a1_10,a1_11,a1_12,a1_13,a1_14⟩,a1_15,a1_16,a1_17,a1_18,a1_19⟩:=a1
 change Spec _ _ ([(TL.hdr a0),Value.agg #[.int .i64 a1_1,.int .i64 a1_2,.int .i64 a1_3,.int .i64 a1_4,.int .i64 a1_5,.int .i64 a1_6,.int .i64 a1_7,.int .i64 a1_8,.int .i64 a1_9,.string a1_10,.string a1_11,.string a1_12,.int .i64 a1_13,(TL.hdr a1_14),.int .i64 a1_15,(TL.hdr a1_16),.int .i64 a1_17,.int .i64 a1_18,.bool a1_19]]:List Value).toArray w [] _
 refine Spec.intro Tryz.func90 rfl Tryz.ntmps90 rfl ?_
 unfold s_l11Has at hp
 replace hp:=dd hp
 refine s2 ?_
 refine bx fun bk3=>?_
 refine s8 ?_
 refine W_while (σ:=Int) GT.dat (fun (v1_0:Int)=>[(5,.int .i64 v1_0)]) (fun (v1_0:Int)=>[]) [(0,_),(3,_)] [blk bk3 _ _] 0 hp sb ms ?_
 clear hp
 rintro v1_0 x1 hp hx1
 replace hp:=dd hp
 refine kq [0,3,5] ?_
 refine s8 ?_
 refine kp [0,3,5,9] ?_
 refine W_cond rfl (fun q2=>?_) (fun q2=>?_)
 ·replace hp:=cond_t q2 hp
  refine s4 ?_
  replace hp:=idx_bind hp;obtain ⟨⟨u3_1,u3_2,u3_3,⟨u3_4,u3_5⟩,u3_6,⟨u3_7,u3_8,u3_9,u3_10,u3_11,u3_12,u3_13,u3_14⟩,u3_15,u3_16,u3_17,u3_18,u3_19⟩,hy3,hp⟩:=hp
  replace hp:=ba hp;obtain ⟨y4,hy4,hp⟩:=hp
  refine W_D0 [17] mix (by kernel_rfl) rfl ?_
  refine s2 ?_
  refine D_idxA (X:=a0) GC.none (OpV.t rfl) (OpV.t rfl) el27.h (RdT.old h0) (fun _=>hy3) ?_
  refine D_loadW GC.none (OpV.t rfl) (fun hg=>RdT.at (RdT.old h0) (hy3).2) (by exact agg103.h) ?_
  refine s1 ?_
  refine D_callX GC.none fn143.h (OpVs.cons (OpV.t rfl) (OpVs.cons (OpV.t rfl) (OpVs.nil))) (by exact fun hg w F hF hM=>s_SameMsg_walk w (u3_1,u3_2,u3_3,(u3_4,u3_5),u3_6,(u3_7,u3_8,u3_9,u3_10,u3_11,u3_12,u3_13,u3_14),u3_15,u3_16,u3_17,u3_18,u3_19) (a1_1,a1_2,a1_3,(a1_4,a1_5),a1_6,(a1_7,a1_8,a1_9,a1_10,a1_11,a1_12,a1_13,a1_14),a1_15,a1_16,a1_17,a1_18,a1_19) (RdT.nowS (RdT.pair RdT.int (RdT.pair RdT.int (RdT.pair RdT.int (RdT.pair (RdT.pair RdT.int RdT.int) (RdT.pair RdT.int (RdT.pair (RdT.pair RdT.int (RdT.pair RdT.int (RdT.pair RdT.int (RdT.pair RdT.str (RdT.pair RdT.str (RdT.pair RdT.str (RdT.pair RdT.int (RdT.snd (RdT.snd (RdT.snd (RdT.snd (RdT.snd (RdT.snd (RdT.snd (RdT.fst (RdT.snd (RdT.snd (RdT.snd (RdT.snd (RdT.snd (RdT.of (RdT.old h0) (hy3).2))))))))))))))))))))) (RdT.pair RdT.int (RdT.pair (RdT.fst (RdT.snd (RdT.snd (RdT.snd (RdT.snd (RdT.snd (RdT.snd (RdT.snd (RdT.of (RdT.old h0) (hy3).2))))))))) (RdT.pair RdT.int (RdT.pair RdT.int RdT.bool)))))))))) hF hM) (RdT.nowS (RdT.pair RdT.int (RdT.pair RdT.int (RdT.pair RdT.int (RdT.pair (RdT.pair RdT.int RdT.int) (RdT.pair RdT.int (RdT.pair (RdT.pair RdT.int (RdT.pair RdT.int (RdT.pair RdT.int (RdT.pair RdT.str (RdT.pair RdT.str (RdT.pair RdT.str (RdT.pair RdT.int (RdT.old h1.2.2.2.2.2.1.2.2.2.2.2.2.2)))))))) (RdT.pair RdT.int (RdT.pair (RdT.old h1.2.2.2.2.2.2.2.1) (RdT.pair RdT.int (RdT.pair RdT.int RdT.bool)))))))))) hF hM) _ hy4) ?_
  refine s8 ?_
  refine kp [0,3,5,17] ?_
  refine W_cond rfl (fun q5=>?_) (fun q5=>?_)
  ·replace hp:=cond_t q5 hp
   refine s4 ?_
   replace hp:=map_any hp;obtain ⟨a6,hp,z_6⟩:=hp
   obtain rfl:=hx1 _ z_6
   obtain rfl:=sj hp
   refine s1 ?_
   refine res1 rfl (ResOK.tmp rfl) ⟨rfl,rfl⟩ ms
  ·replace hp:=cond_f q5 hp
   refine s6 ?_
   exact ⟨IntKind.wrap .i64 (v1_0+1),sb,(.sub ms),some_eq hp⟩
 ·replace hp:=cond_f q2 hp
  refine W_exit ?_
  replace hp:=map_any hp;obtain ⟨a7,hp,z_7⟩:=hp
  obtain rfl:=hx1 _ z_7
  refine s4 ?_
  obtain rfl:=sj hp
  refine s1 ?_
  refine res1 rfl (ResOK.tmp rfl) ⟨rfl,rfl⟩ ms
noncomputable def s_ENetOk (a0:D_ENet):Option Bool :=
 cond ((!decide ((a0.1.length:Int)=3))||(decide (160 < (a0.2.length:Int)))) (some false) (whileP (fun s2:Int=>cond (decide (s2 < 3)) (Option.bind (idx a0.1 s2) (fun y4=>Option.bind (s_ENodeOk (y4.1,y4.2.1,y4.2.2.1,y4.2.2.2)) (fun y5=>gb (!(!y5)) (idx a0.1 s2) (fun y6=>cond ((!y5)||(!decide (y6.1=s2))) (Option.map .inr (some false)) (some (.inl (IntKind.wrap .i64 (s2+1)))))))) (Option.map .inr (whileP (fun s10:Int=>cond (decide (s10 < (a0.2.length:Int))) (Option.bind (idx a0.2 s10) (fun y12=>Option.bind (s_EMsgOk (y12.1,y12.2.1,y12.2.2.1,(y12.2.2.2.1.1,y12.2.2.2.1.2),y12.2.2.2.2.1,(y12.2.2.2.2.2.1.1,y12.2.2.2.2.2.1.2.1,y12.2.2.2.2.2.1.2.2.1,y12.2.2.2.2.2.1.2.2.2.1,y12.2.2.2.2.2.1.2.2.2.2.1,y12.2.2.2.2.2.1.2.2.2.2.2.1,y12.2.2.2.2.2.1.2.2.2.2.2.2.1,y12.2.2.2.2.2.1.2.2.2.2.2.2.2),y12.2.2.2.2.2.2.1,y12.2.2.2.2.2.2.2.1,y12.2.2.2.2.2.2.2.2.1,y12.2.2.2.2.2.2.2.2.2.1,y12.2.2.2.2.2.2.2.2.2.2)) (fun y13=>gb (!(!y13)) (slcP a0.2 0 s10) (fun y15=>gb (!(!y13)) (idx a0.2 s10) (fun y16=>gb (!(!y13)) (s_l11Has y15 (y16.1,y16.2.1,y16.2.2.1,(y16.2.2.2.1.1,y16.2.2.2.1.2),y16.2.2.2.2.1,(y16.2.2.2.2.2.1.1,y16.2.2.2.2.2.1.2.1,y16.2.2.2.2.2.1.2.2.1,y16.2.2.2.2.2.1.2.2.2.1,y16.2.2.2.2.2.1.2.2.2.2.1,y16.2.2.2.2.2.1.2.2.2.2.2.1,y16.2.2.2.2.2.1.2.2.2.2.2.2.1,y16.2.2.2.2.2.1.2.2.2.2.2.2.2),y16.2.2.2.2.2.2.1,y16.2.2.2.2.2.2.2.1,y16.2.2.2.2.2.2.2.2.1,y16.2.2.2.2.2.2.2.2.2.1,y16.2.2.2.2.2.2.2.2.2.2)) (fun y17=>cond ((!y13)||y17) (Option.map .inr (some false)) (some (.inl (IntKind.wrap .i64 (s10+1)))))))))) (Option.map .inr (some true))) 0))) 0)
theorem s_ENetOk_walk (w:World) (a0:T_ENet) (h0:GT.rd w [] a0) (r:Bool) (hp:s_ENetOk (GT.dat a0)=some r):Spec Tryz.prog 42 [.agg (GT.cells a0).toArray].toArray w [] (IsV (.bool r)):=by
 obtain ⟨a0_1,a0_2⟩:=a0
 change Spec _ _ ([Value.agg #[(TL.hdr a0_1),(TL.hdr a0_2)]]:List Value).toArray w [] _
 refine Spec.intro Tryz.func42 rfl Tryz.ntmps42 rfl ?_
 unfold s_ENetOk at hp
 replace hp:=dd hp
 refine s2 ?_
 refine bx fun bk1=>?_
 refine s4 ?_
 refine W_D0 [14] mix (by kernel_rfl) rfl ?_
 refine s2 ?_
 refine D_lenP (X:=a0_1) GC.none (OpV.t rfl) el26.h ?_
 refine s4 ?_
 refine D_lenP (X:=a0_2) (GC.some rfl rfl) (OpV.s rfl) el27.h ?_
 refine s14 ?_
 refine kp [1,14] ?_
 refine W_cond rfl (fun q1=>?_) (fun q1=>?_)
 ·replace hp:=cond_t q1 hp
  refine s4 ?_
  obtain rfl:=sj hp
  refine s1 ?_
  refine res1 rfl (ResOK.tmp rfl) ⟨rfl,rfl⟩ ms
 ·replace hp:=cond_f q1 hp
  refine s7 ?_
  refine W_while (σ:=Int) GT.dat (fun (v2_0:Int)=>[(3,.int .i64 v2_0)]) (fun (v2_0:Int)=>[]) [(1,_)] [blk bk1 _ _] 0 hp sb ms ?_
  clear hp
  rintro v2_0 x2 hp hx2
  replace hp:=dd hp
  refine kq [1,3] ?_
  refine s6 ?_
  refine kp [1,3,16] ?_
  refine W_cond rfl (fun q3=>?_) (fun q3=>?_)
  ·replace hp:=cond_t q3 hp
   refine s4 ?_
   replace hp:=idx_bind hp;obtain ⟨⟨u4_1,u4_2,u4_3,u4_4⟩,hy4,hp⟩:=hp
   replace hp:=ba hp;obtain ⟨y5,hy5,hp⟩:=hp
   replace hp:=idx_gb hp;obtain ⟨⟨u6_1,u6_2,u6_3,u6_4⟩,hy6,hp⟩:=hp
   refine W_D0 [35] mix (by kernel_rfl) rfl ?_
   refine s3 ?_
   refine D_idxA (X:=a0_1) GC.none (OpV.t rfl) (OpV.t rfl) el26.h (RdT.old h0.1) (fun _=>hy4) ?_
   refine D_loadW GC.none (OpV.t rfl) (fun hg=>RdT.at (RdT.old h0.1) (hy4).2) (by exact agg44.h) ?_
   refine D_callX GC.none fn88.h (OpVs.cons (OpV.t rfl) (OpVs.nil)) (by exact fun hg w F hF hM=>s_ENodeOk_walk w (u4_1,u4_2,u4_3,u4_4) (RdT.nowS (RdT.pair RdT.int (RdT.pair RdT.int (RdT.pair (RdT.fst (RdT.snd (RdT.snd (RdT.of (RdT.old h0.1) (hy4).2)))) (RdT.snd (RdT.snd (RdT.snd (RdT.of (RdT.old h0.1) (hy4).2))))))) hF hM) _ hy5) ?_
   refine s5 ?_
   refine D_idxA (X:=a0_1) (GC.some rfl rfl) (OpV.s rfl) (OpV.s rfl) el26.h (RdT.old h0.1) (fun hg=>hy6 (gnot hg.2)) ?_
   refine s1 ?_
   refine D_load (GC.some rfl rfl) (OpV.s rfl) (fun hg=>RdT.at (RdT.old h0.1) (hy6 (gnot hg.2)).2) one3.h rfl ?_
   refine s20 ?_
   refine s2 ?_
   refine kp [1,3,35] ?_
   refine W_cond rfl (fun q7=>?_) (fun q7=>?_)
   ·replace hp:=cond_t q7 hp
    refine s4 ?_
    replace hp:=map_any hp;obtain ⟨a8,hp,z_8⟩:=hp
    obtain rfl:=hx2 _ z_8
    obtain rfl:=sj hp
    refine s1 ?_
    refine res1 rfl (ResOK.tmp rfl) ⟨rfl,rfl⟩ ms
   ·replace hp:=cond_f q7 hp
    refine s6 ?_
    exact ⟨IntKind.wrap .i64 (v2_0+1),sb,(.sub ms),some_eq hp⟩
  ·replace hp:=cond_f q3 hp
   refine W_exit ?_
   replace hp:=map_any hp;obtain ⟨a9,hp,z_9⟩:=hp
   obtain rfl:=hx2 _ z_9
   refine s6 ?_
   refine W_while (σ:=Int) GT.dat (fun (v10_0:Int)=>[(4,.int .i64 v10_0)]) (fun (v10_0:Int)=>[]) [(1,_)] [blk bk1 _ _] 0 hp sb ms ?_
   clear hp
   rintro v10_0 x10 hp hx10
   replace hp:=dd hp
   refine kq [1,4] ?_
   refine s9 ?_
   refine kp [1,4,40] ?_
   refine W_cond rfl (fun q11=>?_) (fun q11=>?_)
   ·replace hp:=cond_t q11 hp
    refine s4 ?_
    replace hp:=idx_bind hp;obtain ⟨⟨u12_1,u12_2,u12_3,⟨u12_4,u12_5⟩,u12_6,⟨u12_7,u12_8,u12_9,u12_10,u12_11,u12_12,u12_13,u12_14⟩,u12_15,u12_16,u12_17,u12_18,u12_19⟩,hy12,hp⟩:=hp
    replace hp:=ba hp;obtain ⟨y13,hy13,hp⟩:=hp
    replace hp:=gb_anyD hp;obtain ⟨y15,hy15,hny15,hp⟩:=hp
    replace hp:=idx_gb hp;obtain ⟨⟨u16_1,u16_2,u16_3,⟨u16_4,u16_5⟩,u16_6,⟨u16_7,u16_8,u16_9,u16_10,u16_11,u16_12,u16_13,u16_14⟩,u16_15,u16_16,u16_17,u16_18,u16_19⟩,hy16,hp⟩:=hp
    replace hp:=gb_any hp;obtain ⟨y17,hy17,hp⟩:=hp
    refine W_D0 [61] mix (by kernel_rfl) rfl ?_
    refine s3 ?_
    refine D_idxA (X:=a0_2) GC.none (OpV.t rfl) (OpV.t rfl) el27.h (RdT.old h0.2) (fun _=>hy12) ?_
    refine D_loadW GC.none (OpV.t rfl) (fun hg=>RdT.at (RdT.old h0.2) (hy12).2) (by exact agg103.h) ?_
    refine D_callX GC.none fn89.h (OpVs.cons (OpV.t rfl) (OpVs.nil)) (by exact fun hg w F hF hM=>s_EMsgOk_walk w (u12_1,u12_2,u12_3,(u12_4,u12_5),u12_6,(u12_7,u12_8,u12_9,u12_10,u12_11,u12_12,u12_13,u12_14),u12_15,u12_16,u12_17,u12_18,u12_19) (RdT.nowS (RdT.pair RdT.int (RdT.pair RdT.int (RdT.pair RdT.int (RdT.pair (RdT.pair RdT.int RdT.int) (RdT.pair RdT.int (RdT.pair (RdT.pair RdT.int (RdT.pair RdT.int (RdT.pair RdT.int (RdT.pair RdT.str (RdT.pair RdT.str (RdT.pair RdT.str (RdT.pair RdT.int (RdT.snd (RdT.snd (RdT.snd (RdT.snd (RdT.snd (RdT.snd (RdT.snd (RdT.fst (RdT.snd (RdT.snd (RdT.snd (RdT.snd (RdT.snd (RdT.of (RdT.old h0.2) (hy12).2))))))))))))))))))))) (RdT.pair RdT.int (RdT.pair (RdT.fst (RdT.snd (RdT.snd (RdT.snd (RdT.snd (RdT.snd (RdT.snd (RdT.snd (RdT.of (RdT.old h0.2) (hy12).2))))))))) (RdT.pair RdT.int (RdT.pair RdT.int RdT.bool)))))))))) hF hM) _ hy13) ?_
    refine s5 ?_
    refine D_slcG (X:=a0_2) (GC.some rfl rfl) (OpV.s rfl) optD.none (optD.some (OpV.s rfl)) el27.h rfl (RdT.old h0.2) (fun hg=>hy15 (gnot hg.2)) (fun hn=>hny15 (by simpa using hn)) (fun X14 hdX14 hRX14=>?_)
    subst hdX14
    refine s3 ?_
    refine D_idxA (X:=a0_2) (GC.some rfl rfl) (OpV.s rfl) (OpV.s rfl) el27.h (RdT.old h0.2) (fun hg=>hy16 (gnot hg.2)) ?_
    refine D_loadW (GC.some rfl rfl) (OpV.s rfl) (fun hg=>RdT.at (RdT.old h0.2) (hy16 (gnot hg.2)).2) (by exact agg103.h) ?_
    refine D_callX (GC.some rfl rfl) fn90.h (OpVs.cons (OpV.s rfl) (OpVs.cons (OpV.s rfl) (OpVs.nil))) (by exact fun hg w F hF hM=>s_l11Has_walk w X14 (u16_1,u16_2,u16_3,(u16_4,u16_5),u16_6,(u16_7,u16_8,u16_9,u16_10,u16_11,u16_12,u16_13,u16_14),u16_15,u16_16,u16_17,u16_18,u16_19) (RdT.nowS (RdT.map hRX14 (RdT.old h0.2)) hF hM) (RdT.nowS (RdT.pair RdT.int (RdT.pair RdT.int (RdT.pair RdT.int (RdT.pair (RdT.pair RdT.int RdT.int) (RdT.pair RdT.int (RdT.pair (RdT.pair RdT.int (RdT.pair RdT.int (RdT.pair RdT.int (RdT.pair RdT.str (RdT.pair RdT.str (RdT.pair RdT.str (RdT.pair RdT.int (RdT.snd (RdT.snd (RdT.snd (RdT.snd (RdT.snd (RdT.snd (RdT.snd (RdT.fst (RdT.snd (RdT.snd (RdT.snd (RdT.snd (RdT.snd (RdT.of (RdT.old h0.2) (hy16 (gnot hg.2)).2))))))))))))))))))))) (RdT.pair RdT.int (RdT.pair (RdT.fst (RdT.snd (RdT.snd (RdT.snd (RdT.snd (RdT.snd (RdT.snd (RdT.snd (RdT.of (RdT.old h0.2) (hy16 (gnot hg.2)).2))))))))) (RdT.pair RdT.int (RdT.pair RdT.int RdT.bool)))))))))) hF hM) _ (hy17 (gnot hg.2))) ?_
    refine s20 ?_
    refine s2 ?_
    refine kp [1,4,61] ?_
    refine W_cond rfl (fun q18=>?_) (fun q18=>?_)
    ·replace hp:=cond_t q18 hp
     refine s4 ?_
     replace hp:=map_any hp;obtain ⟨a19,hp,z_19⟩:=hp
     obtain rfl:=hx10 _ z_19
     obtain rfl:=sj hp
     refine s1 ?_
     refine res1 rfl (ResOK.tmp rfl) ⟨rfl,rfl⟩ ms
    ·replace hp:=cond_f q18 hp
     refine s6 ?_
     exact ⟨IntKind.wrap .i64 (v10_0+1),sb,(.sub ms),some_eq hp⟩
   ·replace hp:=cond_f q11 hp
    refine W_exit ?_
    replace hp:=map_any hp;obtain ⟨a20,hp,z_20⟩:=hp
    obtain rfl:=hx10 _ z_20
    refine s4 ?_
    obtain rfl:=sj hp
    refine s1 ?_
    refine res1 rfl (ResOK.tmp rfl) ⟨rfl,rfl⟩ ms
end Go.Proofs.SL
namespace Go.Proofs.SL
open Go
variable {Γ:Cx} {l l':Envl} {M M' M1 M2 F A:List HP} {Qp:Post} {K:Kont} {w0 w:World} {S0:List Nat}
variable {ops:Array Oper} {fuel:Nat} {listed:Array Bool} {i d last:Nat} {o:Oper}
theorem wpG_first0 {P:Program} {Q:Exit→Act→World→Prop} {last:Nat} {S:World→Prop} {oi:Oper} {v:Value} (hi:ops[i]?=some oi) (hsel:∀ (j:Nat) (o:Oper) cs b,ops[j]?=some o→o.op≠.select cs b)
  (hQ:∀ c a w,Q (.panic c) (a.put oi.dst v) w→Q (.panic c) a w) (hil:i≠last):∀ (fuel:Nat) (listed:Array Bool) (a:Act) (w:World),
   (∀ j oj,ops[j]?=some oj→j≠i→listed.getD j true=false→(∀ e∈oj.after,Region.binds .any e=true→e.on≠i)→oi.apart ops oj=true) →
   i∈Region.ready .any ops listed→YieldsIf P ops (fun _=>True) oi v a→(listed.getD last false=false→S w) →
   wpG P ops Q last S fuel (listed.setIfInBounds i true) (a.put oi.dst v) w→wpG P ops Q last S (fuel+1) listed a w:=by
 intro fuel
 induction fuel with
 | zero =>
  intro listed a w _ hr hy hS H
  refine ⟨fun h=>(by rw [h] at hr;cases hr),fun j hj=>?_⟩
  by_cases hji:j=i
  ·subst hji;exact hy.wpOp hi trivial ⟨fun hf=>hS (by rwa [getD_set_ne false hil] at hf),H⟩
  ·have:=ready_mono hj hji
   rw [H.1] at this
   cases this
 | succ fuel ih =>
  intro listed a w hfree hr hy hS H
  refine ⟨fun h=>(by rw [h] at hr;cases hr),fun j hj=>?_⟩
  by_cases hji:j=i
  ·subst hji;exact hy.wpOp hi trivial ⟨fun hf=>hS (by rwa [getD_set_ne false hil] at hf),H⟩
  ·have h1:=H.2 j (ready_mono hj hji)
   obtain ⟨hjun,oj,hoj,hall⟩:=mem_ready.1 hj
   have hun:=ready_un hr
   have hnot:∀ e∈oj.after,Region.binds .any e=true→e.on≠i:=fun e he hb heq=>by
    have h1:=hall e he hb
    rw [heq,hun] at h1
    cases h1
   have h2:=wpOp_putIf hoj (hfree j oj hoj hji hjun hnot) (fun cs b=>hsel i oi cs b hi) (fun cs b=>hsel j oj cs b hoj) hQ hy h1
   have hfree':∀ k ok,ops[k]?=some ok→k≠i→(listed.setIfInBounds j true).getD k true=false →
     (∀ e∈ok.after,Region.binds .any e=true→e.on≠i)→oi.apart ops ok=true:=fun k ok hk hki hun hno=>by
    refine hfree k ok hk hki ?_ hno
    by_cases hjk:j=k
    ·subst hjk;exact hjun
    ·rw [getD_set_ne true hjk] at hun;exact hun
   have hfl:∀ b,((listed.setIfInBounds i true).setIfInBounds j true).getD last b=(listed.setIfInBounds j true).getD last b:=fun b=>by
    rw [Array.setIfInBounds_comm _ _ (Ne.symm hji),getD_set_ne b hil]
   refine wpOp_mono (fun a' w' h3=>⟨fun hf=>h3.2.1 (by rw [hfl];exact hf),ih (listed.setIfInBounds j true) a' w' hfree' (ready_mono hr (Ne.symm hji)) h3.1 (fun hf=>h3.2.1 (by rw [hfl];exact hf)) ?_⟩) h2
   rw [Array.setIfInBounds_comm _ _ hji]
   exact h3.2.2
theorem AG_take0 {v:Value} (i:Nat) (hi:ops[i]?=some o) (hp:∀ u:World,Pu { Γ with w0:=u } [] l o d v) (hs:Region.noSelect ops=true) (hf:Region.free .any ops listed i=true) (hr:(Region.ready .any ops listed).contains i=true)
  (hil:Nat.beq i last=false) (hA:AllIn A M) (hk:AG Γ ops A Qp last fuel (listed.setIfInBounds i true) ((d,v)::l) M):AG Γ ops A Qp last (fuel+1) listed l M:=fun a w ha hw =>
 wpG_first0 hi (Region.noSelect_spec hs) (fun _ _ _ h=>h) (fun e=>by subst e;rw [Nat.beq_refl] at hil;cases hil) fuel listed a w (Region.free_spec hi hf) (by simpa using hr)
  (.inl ⟨by simp [Region.wanted,(hp w).gd],fun u _=>(hp u).pu a u ha ⟨fun _ _ _=>rfl,fun _ h=>by cases h⟩⟩) (fun _=>hw.seesSub hA.mem) (hk _ w (by rw [(hp w).dst];exact ha.put (hp w).lt) hw)
end Go.Proofs.SL
