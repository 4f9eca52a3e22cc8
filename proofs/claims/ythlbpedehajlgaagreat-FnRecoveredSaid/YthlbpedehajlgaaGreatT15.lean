/- The texts of the proof, part 15: the base, walks of functions, plain Lean. -/
import Derived.Test.YthlbpedehajlgaaGreatT14
import Derived.Test.YthlbpedehajlgaaGreatT5
namespace Go.Proofs.SL
open Go
set_option maxHeartbeats 2000000
instance fn118:FnF Tryz.prog 118:=⟨_,Tryz.func118,by kernel_rfl,rfl⟩
instance fn165:FnF Tryz.prog 165:=⟨_,Tryz.func165,by kernel_rfl,rfl⟩
instance fn117:FnF Tryz.prog 117:=⟨_,Tryz.func117,by kernel_rfl,rfl⟩
instance fn116:FnF Tryz.prog 116:=⟨_,Tryz.func116,by kernel_rfl,rfl⟩
instance fn65:FnF Tryz.prog 65:=⟨_,Tryz.func65,by kernel_rfl,rfl⟩
instance fn34:FnF Tryz.prog 34:=⟨_,Tryz.func34,by kernel_rfl,rfl⟩
instance fn67:FnF Tryz.prog 67:=⟨_,Tryz.func67,by kernel_rfl,rfl⟩
instance fn68:FnF Tryz.prog 68:=⟨_,Tryz.func68,by kernel_rfl,rfl⟩
instance fn69:FnF Tryz.prog 69:=⟨_,Tryz.func69,by kernel_rfl,rfl⟩
instance fn70:FnF Tryz.prog 70:=⟨_,Tryz.func70,by kernel_rfl,rfl⟩
instance fn71:FnF Tryz.prog 71:=⟨_,Tryz.func71,by kernel_rfl,rfl⟩
instance fn72:FnF Tryz.prog 72:=⟨_,Tryz.func72,by kernel_rfl,rfl⟩
instance fn8:FnF Tryz.prog 8:=⟨_,Tryz.func8,by kernel_rfl,rfl⟩
instance zero40:ZerF Tryz.prog 40 [.int .i64 0,.int .i64 0,.int .i64 0,.int .i64 0,.int .i64 0,.int .i64 0,.int .i64 0,.int .i64 0,.string ByteArray.empty,.string ByteArray.empty,.string ByteArray.empty,.int .i64 0,.slice none 0 0]:=⟨by kernel_rfl⟩
instance fn36:FnF Tryz.prog 36:=⟨_,Tryz.func36,by kernel_rfl,rfl⟩
noncomputable def i_ENodeNew (a0:Int):Option (D_ENode×Bool) :=
 Option.bind (i_isRep a0) (fun y1=>cond (!y1) (some ((0,0,([]:List D_Inst),([]:List D_Lead)),false)) (some ((a0,1,([]:List D_Inst),([]:List D_Lead)),true)))
theorem i_ENodeNew_walk (w:World) (a0:Int)  (r:D_ENode×Bool) (hp:i_ENodeNew a0=some r):Spec Tryz.prog 34 [.int .i64 a0].toArray w [] (fun v M=>∃ (x0:T_ENode) (x1:Bool),v=.tuple #[.agg (GT.cells x0).toArray,.bool x1]∧(GT.dat x0,GT.dat x1)=r∧M=[treeH x0]):=by
 refine Spec.intro Tryz.func34 rfl Tryz.ntmps34 rfl ?_
 unfold i_ENodeNew at hp
 replace hp:=dd hp
 refine s2 ?_
 refine al fun bk2=>?_
 refine s6 ?_
 replace hp:=ba hp;obtain ⟨y1,hy1,hp⟩:=hp
 refine L_callX rfl fn62.h rfl (by exact fun w hw=>i_isRep_walk w a0  _ hy1) ?_
 refine s2 ?_
 refine kp [0,2,6] ?_
 refine W_cond rfl (fun q2=>?_) (fun q2=>?_)
 ·replace hp:=cond_t q2 hp
  refine s2 ?_
  refine L_build (xs:=[]) (cs:=[.int .i64 0,.int .i64 0,(TL.hdr (TL.nil T_Inst 0)),(TL.hdr (TL.nil T_Lead 0))]) rfl rfl bld44.h rfl ?_
  refine s3 ?_
  obtain rfl:=sj hp
  refine W_conv (M':=treeH (TL.nil T_Inst 0)::_) (fun w h=>addNilT (τ:=T_Inst) 0 h) ?_
  refine W_conv (M':=treeH (TL.nil T_Lead 0)::_) (fun w h=>addNilT (τ:=T_Lead) 0 h) ?_
  refine jW ((0,0,(TL.nil T_Inst 0),(TL.nil T_Lead 0)):T_ENode) ?_
  refine s1 ?_
  refine res2 rfl (ResOK.cell rfl mm (by exact agg44.h)) (ResOK.tmp rfl) ⟨(0,0,(TL.nil T_Inst 0),(TL.nil T_Lead 0)),false,rfl,rfl,rfl⟩ ms
 ·replace hp:=cond_f q2 hp
  refine s4 ?_
  refine L_build (xs:=[(0,.tmp 8),(1,.const (.int .i64 1))]) (cs:=[.int .i64 a0,.int .i64 1,(TL.hdr (TL.nil T_Inst 0)),(TL.hdr (TL.nil T_Lead 0))]) rfl rfl bld44.h rfl ?_
  refine s3 ?_
  obtain rfl:=sj hp
  refine W_conv (M':=treeH (TL.nil T_Inst 0)::_) (fun w h=>addNilT (τ:=T_Inst) 0 h) ?_
  refine W_conv (M':=treeH (TL.nil T_Lead 0)::_) (fun w h=>addNilT (τ:=T_Lead) 0 h) ?_
  refine jW ((a0,1,(TL.nil T_Inst 0),(TL.nil T_Lead 0)):T_ENode) ?_
  refine s1 ?_
  refine res2 rfl (ResOK.cell rfl mm (by exact agg44.h)) (ResOK.tmp rfl) ⟨(a0,1,(TL.nil T_Inst 0),(TL.nil T_Lead 0)),true,rfl,rfl,rfl⟩ ms
noncomputable def i_SameMsg (a0:D_EMsg) (a1:D_EMsg):Option Bool :=
 gb (((((decide (a0.1=a1.1))&&(decide (a0.2.1=a1.2.1)))&&(decide (a0.2.2.1=a1.2.2.1)))&&(decide (a0.2.2.2.1.1=a1.2.2.2.1.1)&&(decide (a0.2.2.2.1.2=a1.2.2.2.1.2)&&true)))&&(decide (a0.2.2.2.2.1=a1.2.2.2.2.1))) (i_SameCmd (a0.2.2.2.2.2.1.1,a0.2.2.2.2.2.1.2.1,a0.2.2.2.2.2.1.2.2.1,a0.2.2.2.2.2.1.2.2.2.1,a0.2.2.2.2.2.1.2.2.2.2.1,a0.2.2.2.2.2.1.2.2.2.2.2.1,a0.2.2.2.2.2.1.2.2.2.2.2.2.1,a0.2.2.2.2.2.1.2.2.2.2.2.2.2) (a1.2.2.2.2.2.1.1,a1.2.2.2.2.2.1.2.1,a1.2.2.2.2.2.1.2.2.1,a1.2.2.2.2.2.1.2.2.2.1,a1.2.2.2.2.2.1.2.2.2.2.1,a1.2.2.2.2.2.1.2.2.2.2.2.1,a1.2.2.2.2.2.1.2.2.2.2.2.2.1,a1.2.2.2.2.2.1.2.2.2.2.2.2.2)) (fun y1=>gb (((((((decide (a0.1=a1.1))&&(decide (a0.2.1=a1.2.1)))&&(decide (a0.2.2.1=a1.2.2.1)))&&(decide (a0.2.2.2.1.1=a1.2.2.2.1.1)&&(decide (a0.2.2.2.1.2=a1.2.2.2.1.2)&&true)))&&(decide (a0.2.2.2.2.1=a1.2.2.2.2.1)))&&y1)&&(decide (a0.2.2.2.2.2.2.1=a1.2.2.2.2.2.2.1))) (sl_Equal_implIdimplId a0.2.2.2.2.2.2.2.1 a1.2.2.2.2.2.2.2.1) (fun y2=>some (((((((((((decide (a0.1=a1.1))&&(decide (a0.2.1=a1.2.1)))&&(decide (a0.2.2.1=a1.2.2.1)))&&(decide (a0.2.2.2.1.1=a1.2.2.2.1.1)&&(decide (a0.2.2.2.1.2=a1.2.2.2.1.2)&&true)))&&(decide (a0.2.2.2.2.1=a1.2.2.2.2.1)))&&y1)&&(decide (a0.2.2.2.2.2.2.1=a1.2.2.2.2.2.2.1)))&&y2)&&(decide (a0.2.2.2.2.2.2.2.2.1=a1.2.2.2.2.2.2.2.2.1)))&&(decide (a0.2.2.2.2.2.2.2.2.2.1=a1.2.2.2.2.2.2.2.2.2.1)))&&(a0.2.2.2.2.2.2.2.2.2.2 == a1.2.2.2.2.2.2.2.2.2.2))))
theorem i_SameMsg_walk (w:World) (a0:T_EMsg) (a1:T_EMsg) (h0:GT.rd w [] a0) (h1:GT.rd w [] a1) (r:Bool) (hp:i_SameMsg (GT.dat a0) (GT.dat a1)=some r):Spec Tryz.prog 118 [.agg (GT.cells a0).toArray,.agg (GT.cells a1).toArray].toArray w [] (IsV (.bool r)):=by
 obtain ⟨a0_1,a0_2,a0_3,⟨a0_4,a0_5⟩,a0_6,⟨a0_7,a0_8,a0_9,a0_10,a0_11,a0_12,a0_13,a0_14⟩,a0_15,a0_16,a0_17,a0_18,a0_19⟩:=a0
 obtain ⟨a1_1,a1_2,a1_3,⟨a1_4,a1_5⟩,a1_6,⟨a1_7,a1_8,a1_9,a1_10,a1_11,a1_12,a1_13,a1_14⟩,a1_15,a1_16,a1_17,a1_18,a1_19⟩:=a1
 change Spec _ _ ([Value.agg #[.int .i64 a0_1,.int .i64 a0_2,.int .i64 a0_3,.int .i64 a0_4,.int .i64 a0_5,.int .i64 a0_6,.int .i64 a0_7,.int .i64 a0_8,.int .i64 a0_9,.string a0_10,.string a0_11,.string a0_12,.int .i64 a0_13,(TL.hdr a0_14),.int .i64 a0_15,(TL.hdr a0_16),.int .i64 a0_17,.int .i64 a0_18,.bool a0_19],Value.agg #[.int .i64 a1_1,.int .i64 a1_2,.int .i64 a1_3,.int .i64 a1_4,.int .i64 a1_5,.int .i64 a1_6,.int .i64 a1_7,.int .i64 a1_8,.int .i64 a1_9,.string a1_10,.string a1_11,.string a1_12,.int .i64 a1_13,(TL.hdr a1_14),.int .i64 a1_15,(TL.hdr a1_16),.int .i64 a1_17,.int .i64 a1_18,.bool a1_19]]:List Value).toArray w [] _
 refine Spec.intro Tryz.func118 rfl Tryz.ntmps118 rfl ?_
 unfold i_SameMsg at hp
 try dsimp only [dat_pair,dat_int,dat_bool,dat_str,dat_ar] at hp
 refine W_seq ?_
 refine W_region ?_
 refine L_box rfl rfl (fun bk2=>?_)
 refine L_box rfl rfl (fun bk3=>?_)
 refine L_assign rfl rfl ?_
 refine L_nil ?_
 refine W_seq ?_
 have ho:=hp;clear hp;obtain ⟨y1,hy1,hp⟩:=gb_any ho;clear ho
 have ho:=hp;clear hp;obtain ⟨y2,hy2,hp⟩:=gb_any ho;clear ho
 refine W_D0 [4] mix (by kernel_rfl) rfl ?_
 refine D_fieldAddr GC.none (OpV.t rfl) fld103_0.h ?_
 refine D_load GC.none (OpV.t rfl) (fun hg=>RdC.blk (by first | (with_reducible repeat (first | exact List.Mem.head _ | apply List.Mem.tail));done | (repeat (first | exact List.Mem.head _ | apply List.Mem.tail)))) one3.h rfl ?_
 refine D_fieldAddr GC.none (OpV.t rfl) fld103_0.h ?_
 refine D_load GC.none (OpV.t rfl) (fun hg=>RdC.blk (by first | (with_reducible repeat (first | exact List.Mem.head _ | apply List.Mem.tail));done | (repeat (first | exact List.Mem.head _ | apply List.Mem.tail)))) one3.h rfl ?_
 refine D_bin GC.none (OpV.t rfl) (OpV.t rfl) (fun hg=>bv_eql) ?_
 refine D_move GC.none (OpV.t rfl) ?_
 refine D_fieldAddr (GC.some rfl rfl) (OpV.t rfl) fld103_1.h ?_
 refine D_load (GC.some rfl rfl) (OpV.s rfl) (fun hg=>RdC.blk (by first | (with_reducible repeat (first | exact List.Mem.head _ | apply List.Mem.tail));done | (repeat (first | exact List.Mem.head _ | apply List.Mem.tail)))) one3.h rfl ?_
 refine D_fieldAddr (GC.some rfl rfl) (OpV.t rfl) fld103_1.h ?_
 refine D_load (GC.some rfl rfl) (OpV.s rfl) (fun hg=>RdC.blk (by first | (with_reducible repeat (first | exact List.Mem.head _ | apply List.Mem.tail));done | (repeat (first | exact List.Mem.head _ | apply List.Mem.tail)))) one3.h rfl ?_
 refine D_bin (GC.some rfl rfl) (OpV.s rfl) (OpV.s rfl) (fun hg=>bv_eql) ?_
 refine D_and (cy:=_) GC.none (OpV.t rfl) (OpV.s rfl) (fun h hb=>⟨h,hb⟩) ?_
 refine D_move GC.none (OpV.t rfl) ?_
 refine D_fieldAddr (GC.some rfl rfl) (OpV.t rfl) fld103_2.h ?_
 refine D_load (GC.some rfl rfl) (OpV.s rfl) (fun hg=>RdC.blk (by first | (with_reducible repeat (first | exact List.Mem.head _ | apply List.Mem.tail));done | (repeat (first | exact List.Mem.head _ | apply List.Mem.tail)))) one3.h rfl ?_
 refine D_fieldAddr (GC.some rfl rfl) (OpV.t rfl) fld103_2.h ?_
 refine D_load (GC.some rfl rfl) (OpV.s rfl) (fun hg=>RdC.blk (by first | (with_reducible repeat (first | exact List.Mem.head _ | apply List.Mem.tail));done | (repeat (first | exact List.Mem.head _ | apply List.Mem.tail)))) one3.h rfl ?_
 refine D_bin (GC.some rfl rfl) (OpV.s rfl) (OpV.s rfl) (fun hg=>bv_eql) ?_
 refine D_and (cy:=_) GC.none (OpV.t rfl) (OpV.s rfl) (fun h hb=>⟨h,hb⟩) ?_
 refine D_move GC.none (OpV.t rfl) ?_
 refine D_fieldAddr (GC.some rfl rfl) (OpV.t rfl) fld103_3.h ?_
 refine D_loadW (GC.some rfl rfl) (OpV.s rfl) (fun hg=>RdC.seg (RdC.blk (by first | (with_reducible repeat (first | exact List.Mem.head _ | apply List.Mem.tail));done | (repeat (first | exact List.Mem.head _ | apply List.Mem.tail)))) 3 2 rfl) (by exact agg35.h) ?_
 refine D_fieldAddr (GC.some rfl rfl) (OpV.t rfl) fld103_3.h ?_
 refine D_loadW (GC.some rfl rfl) (OpV.s rfl) (fun hg=>RdC.seg (RdC.blk (by first | (with_reducible repeat (first | exact List.Mem.head _ | apply List.Mem.tail));done | (repeat (first | exact List.Mem.head _ | apply List.Mem.tail)))) 3 2 rfl) (by exact agg35.h) ?_
 refine D_bin (GC.some rfl rfl) (OpV.s rfl) (OpV.s rfl) (fun hg=>(bv_aeql eqsh35 (EqS.consI one3.h und3.h rfl rfl (EqS.consI one3.h und3.h rfl rfl EqS.nil)))) ?_
 refine D_and (cy:=_) GC.none (OpV.t rfl) (OpV.s rfl) (fun h hb=>⟨h,hb⟩) ?_
 refine D_move GC.none (OpV.t rfl) ?_
 refine D_fieldAddr (GC.some rfl rfl) (OpV.t rfl) fld103_4.h ?_
 refine D_load (GC.some rfl rfl) (OpV.s rfl) (fun hg=>RdC.blk (by first | (with_reducible repeat (first | exact List.Mem.head _ | apply List.Mem.tail));done | (repeat (first | exact List.Mem.head _ | apply List.Mem.tail)))) one3.h rfl ?_
 refine D_fieldAddr (GC.some rfl rfl) (OpV.t rfl) fld103_4.h ?_
 refine D_load (GC.some rfl rfl) (OpV.s rfl) (fun hg=>RdC.blk (by first | (with_reducible repeat (first | exact List.Mem.head _ | apply List.Mem.tail));done | (repeat (first | exact List.Mem.head _ | apply List.Mem.tail)))) one3.h rfl ?_
 refine D_bin (GC.some rfl rfl) (OpV.s rfl) (OpV.s rfl) (fun hg=>bv_eql) ?_
 refine D_and (cy:=_) GC.none (OpV.t rfl) (OpV.s rfl) (fun h hb=>⟨h,hb⟩) ?_
 refine D_move GC.none (OpV.t rfl) ?_
 refine D_fieldAddr (GC.some rfl rfl) (OpV.t rfl) fld103_5.h ?_
 refine D_loadW (GC.some rfl rfl) (OpV.s rfl) (fun hg=>RdC.seg (RdC.blk (by first | (with_reducible repeat (first | exact List.Mem.head _ | apply List.Mem.tail));done | (repeat (first | exact List.Mem.head _ | apply List.Mem.tail)))) 6 8 rfl) (by exact agg38.h) ?_
 refine D_fieldAddr (GC.some rfl rfl) (OpV.t rfl) fld103_5.h ?_
 refine D_loadW (GC.some rfl rfl) (OpV.s rfl) (fun hg=>RdC.seg (RdC.blk (by first | (with_reducible repeat (first | exact List.Mem.head _ | apply List.Mem.tail));done | (repeat (first | exact List.Mem.head _ | apply List.Mem.tail)))) 6 8 rfl) (by exact agg38.h) ?_
 refine D_callX (GC.some rfl rfl) fn161.h (OpVs.cons (OpV.s rfl) (OpVs.cons (OpV.s rfl) (OpVs.nil))) (by exact fun hg w F hF hM=>i_SameCmd_walk w (a0_7,a0_8,a0_9,a0_10,a0_11,a0_12,a0_13,a0_14) (a1_7,a1_8,a1_9,a1_10,a1_11,a1_12,a1_13,a1_14) (RdT.nowS (RdT.pair RdT.int (RdT.pair RdT.int (RdT.pair RdT.int (RdT.pair RdT.str (RdT.pair RdT.str (RdT.pair RdT.str (RdT.pair RdT.int (RdT.old h0.2.2.2.2.2.1.2.2.2.2.2.2.2)))))))) hF hM) (RdT.nowS (RdT.pair RdT.int (RdT.pair RdT.int (RdT.pair RdT.int (RdT.pair RdT.str (RdT.pair RdT.str (RdT.pair RdT.str (RdT.pair RdT.int (RdT.old h1.2.2.2.2.2.1.2.2.2.2.2.2.2)))))))) hF hM) _ (hy1 hg.2)) ?_
 refine D_and (cy:=_) GC.none (OpV.t rfl) (OpV.s rfl) (fun h hb=>⟨h,hb⟩) ?_
 refine D_move GC.none (OpV.t rfl) ?_
 refine D_fieldAddr (GC.some rfl rfl) (OpV.t rfl) fld103_6.h ?_
 refine D_load (GC.some rfl rfl) (OpV.s rfl) (fun hg=>RdC.blk (by first | (with_reducible repeat (first | exact List.Mem.head _ | apply List.Mem.tail));done | (repeat (first | exact List.Mem.head _ | apply List.Mem.tail)))) one3.h rfl ?_
 refine D_fieldAddr (GC.some rfl rfl) (OpV.t rfl) fld103_6.h ?_
 refine D_load (GC.some rfl rfl) (OpV.s rfl) (fun hg=>RdC.blk (by first | (with_reducible repeat (first | exact List.Mem.head _ | apply List.Mem.tail));done | (repeat (first | exact List.Mem.head _ | apply List.Mem.tail)))) one3.h rfl ?_
 refine D_bin (GC.some rfl rfl) (OpV.s rfl) (OpV.s rfl) (fun hg=>bv_eql) ?_
 refine D_and (cy:=_) GC.none (OpV.t rfl) (OpV.s rfl) (fun h hb=>⟨h,hb⟩) ?_
 refine D_move GC.none (OpV.t rfl) ?_
 refine D_fieldAddr (GC.some rfl rfl) (OpV.t rfl) fld103_7.h ?_
 refine D_load (GC.some rfl rfl) (OpV.s rfl) (fun hg=>RdC.blk (by first | (with_reducible repeat (first | exact List.Mem.head _ | apply List.Mem.tail));done | (repeat (first | exact List.Mem.head _ | apply List.Mem.tail)))) one31.h rfl ?_
 refine D_fieldAddr (GC.some rfl rfl) (OpV.t rfl) fld103_7.h ?_
 refine D_load (GC.some rfl rfl) (OpV.s rfl) (fun hg=>RdC.blk (by first | (with_reducible repeat (first | exact List.Mem.head _ | apply List.Mem.tail));done | (repeat (first | exact List.Mem.head _ | apply List.Mem.tail)))) one31.h rfl ?_
 refine D_callX (GC.some rfl rfl) fn166.h (OpVs.cons (OpV.s rfl) (OpVs.cons (OpV.s rfl) (OpVs.nil))) (by exact fun hg w F hF hM=>sl_Equal_implIdimplId_walk w a0_16 a1_16 (RdT.nowS (RdT.old h0.2.2.2.2.2.2.2.1) hF hM) (RdT.nowS (RdT.old h1.2.2.2.2.2.2.2.1) hF hM) _ (hy2 hg.2)) ?_
 refine D_and (cy:=_) GC.none (OpV.t rfl) (OpV.s rfl) (fun h hb=>⟨h,hb⟩) ?_
 refine D_move GC.none (OpV.t rfl) ?_
 refine D_fieldAddr (GC.some rfl rfl) (OpV.t rfl) fld103_8.h ?_
 refine D_load (GC.some rfl rfl) (OpV.s rfl) (fun hg=>RdC.blk (by first | (with_reducible repeat (first | exact List.Mem.head _ | apply List.Mem.tail));done | (repeat (first | exact List.Mem.head _ | apply List.Mem.tail)))) one3.h rfl ?_
 refine D_fieldAddr (GC.some rfl rfl) (OpV.t rfl) fld103_8.h ?_
 refine D_load (GC.some rfl rfl) (OpV.s rfl) (fun hg=>RdC.blk (by first | (with_reducible repeat (first | exact List.Mem.head _ | apply List.Mem.tail));done | (repeat (first | exact List.Mem.head _ | apply List.Mem.tail)))) one3.h rfl ?_
 refine D_bin (GC.some rfl rfl) (OpV.s rfl) (OpV.s rfl) (fun hg=>bv_eql) ?_
 refine D_and (cy:=_) GC.none (OpV.t rfl) (OpV.s rfl) (fun h hb=>⟨h,hb⟩) ?_
 refine D_move GC.none (OpV.t rfl) ?_
 refine D_fieldAddr (GC.some rfl rfl) (OpV.t rfl) fld103_9.h ?_
 refine D_load (GC.some rfl rfl) (OpV.s rfl) (fun hg=>RdC.blk (by first | (with_reducible repeat (first | exact List.Mem.head _ | apply List.Mem.tail));done | (repeat (first | exact List.Mem.head _ | apply List.Mem.tail)))) one3.h rfl ?_
 refine D_fieldAddr (GC.some rfl rfl) (OpV.t rfl) fld103_9.h ?_
 refine D_load (GC.some rfl rfl) (OpV.s rfl) (fun hg=>RdC.blk (by first | (with_reducible repeat (first | exact List.Mem.head _ | apply List.Mem.tail));done | (repeat (first | exact List.Mem.head _ | apply List.Mem.tail)))) one3.h rfl ?_
 refine D_bin (GC.some rfl rfl) (OpV.s rfl) (OpV.s rfl) (fun hg=>bv_eql) ?_
 refine D_and (cy:=_) GC.none (OpV.t rfl) (OpV.s rfl) (fun h hb=>⟨h,hb⟩) ?_
 refine D_move GC.none (OpV.t rfl) ?_
 refine D_fieldAddr (GC.some rfl rfl) (OpV.t rfl) fld103_10.h ?_
 refine D_load (GC.some rfl rfl) (OpV.s rfl) (fun hg=>RdC.blk (by first | (with_reducible repeat (first | exact List.Mem.head _ | apply List.Mem.tail));done | (repeat (first | exact List.Mem.head _ | apply List.Mem.tail)))) one4.h rfl ?_
 refine D_fieldAddr (GC.some rfl rfl) (OpV.t rfl) fld103_10.h ?_
 refine D_load (GC.some rfl rfl) (OpV.s rfl) (fun hg=>RdC.blk (by first | (with_reducible repeat (first | exact List.Mem.head _ | apply List.Mem.tail));done | (repeat (first | exact List.Mem.head _ | apply List.Mem.tail)))) one4.h rfl ?_
 refine D_bin (GC.some rfl rfl) (OpV.s rfl) (OpV.s rfl) (fun hg=>(bv_beql und4.h)) ?_
 refine D_and (cy:=_) GC.none (OpV.t rfl) (OpV.s rfl) (fun h hb=>⟨h,hb⟩) ?_
 refine D_assign GC.none (OpV.t rfl) ?_
 refine DV_nil ?_
 refine Give_is rfl rfl ?_
 refine Give_drop rfl ?_
 refine Give_drop rfl ?_
 refine Give_drop rfl ?_
 refine Give_drop rfl ?_
 refine Give_drop rfl ?_
 refine Give_drop rfl ?_
 refine Give_drop rfl ?_
 refine Give_drop rfl ?_
 refine Give_drop rfl ?_
 refine Give_drop rfl ?_
 refine Give_drop rfl ?_
 refine Give_drop rfl ?_
 refine Give_drop rfl ?_
 refine Give_drop rfl ?_
 refine Give_drop rfl ?_
 refine Give_drop rfl ?_
 refine Give_drop rfl ?_
 refine Give_drop rfl ?_
 refine Give_drop rfl ?_
 refine Give_drop rfl ?_
 refine Give_drop rfl ?_
 refine Give_drop rfl ?_
 refine Give_drop rfl ?_
 refine Give_drop rfl ?_
 refine Give_drop rfl ?_
 refine Give_drop rfl ?_
 refine Give_drop rfl ?_
 refine Give_drop rfl ?_
 refine Give_drop rfl ?_
 refine Give_drop rfl ?_
 refine Give_drop rfl ?_
 refine Give_drop rfl ?_
 refine Give_drop rfl ?_
 refine Give_drop rfl ?_
 refine Give_drop rfl ?_
 refine Give_drop rfl ?_
 refine Give_drop rfl ?_
 refine Give_drop rfl ?_
 refine Give_drop rfl ?_
 refine Give_drop rfl ?_
 refine Give_drop rfl ?_
 refine Give_drop rfl ?_
 refine Give_drop rfl ?_
 refine Give_drop rfl ?_
 refine Give_drop rfl ?_
 refine Give_drop rfl ?_
 refine Give_drop rfl ?_
 refine Give_drop rfl ?_
 refine Give_drop rfl ?_
 refine Give_drop rfl ?_
 refine Give_drop rfl ?_
 refine Give_drop rfl ?_
 refine Give_drop rfl ?_
 refine Give_drop rfl ?_
 refine Give_drop rfl ?_
 refine Give_drop rfl ?_
 refine Give_drop rfl ?_
 refine Give_drop rfl ?_
 refine Give_drop rfl ?_
 refine Give_drop rfl ?_
 refine Give_drop rfl ?_
 refine Give_drop rfl ?_
 refine Give_drop rfl ?_
 refine Give_drop rfl ?_
 refine Give_drop rfl ?_
 refine Give_drop rfl ?_
 refine Give_drop rfl ?_
 refine Give_drop rfl ?_
 refine Give_drop rfl ?_
 refine Give_drop rfl ?_
 refine Give_drop rfl ?_
 refine Give_drop rfl ?_
 refine Give_drop rfl ?_
 refine Give_drop rfl ?_
 refine Give_drop rfl ?_
 refine Give_nil ?_
 obtain rfl:=sj hp
 refine W_ret ?_
 refine res1 rfl (ResOK.tmp rfl) ⟨rfl,rfl⟩ (MSub.nil _)
noncomputable def i_hasMsg_c1 (a0:D_EMsg) (c0:D_EMsg):Option Bool :=
 Option.bind (i_SameMsg (a0.1,a0.2.1,a0.2.2.1,(a0.2.2.2.1.1,a0.2.2.2.1.2),a0.2.2.2.2.1,(a0.2.2.2.2.2.1.1,a0.2.2.2.2.2.1.2.1,a0.2.2.2.2.2.1.2.2.1,a0.2.2.2.2.2.1.2.2.2.1,a0.2.2.2.2.2.1.2.2.2.2.1,a0.2.2.2.2.2.1.2.2.2.2.2.1,a0.2.2.2.2.2.1.2.2.2.2.2.2.1,a0.2.2.2.2.2.1.2.2.2.2.2.2.2),a0.2.2.2.2.2.2.1,a0.2.2.2.2.2.2.2.1,a0.2.2.2.2.2.2.2.2.1,a0.2.2.2.2.2.2.2.2.2.1,a0.2.2.2.2.2.2.2.2.2.2) (c0.1,c0.2.1,c0.2.2.1,(c0.2.2.2.1.1,c0.2.2.2.1.2),c0.2.2.2.2.1,(c0.2.2.2.2.2.1.1,c0.2.2.2.2.2.1.2.1,c0.2.2.2.2.2.1.2.2.1,c0.2.2.2.2.2.1.2.2.2.1,c0.2.2.2.2.2.1.2.2.2.2.1,c0.2.2.2.2.2.1.2.2.2.2.2.1,c0.2.2.2.2.2.1.2.2.2.2.2.2.1,c0.2.2.2.2.2.1.2.2.2.2.2.2.2),c0.2.2.2.2.2.2.1,c0.2.2.2.2.2.2.2.1,c0.2.2.2.2.2.2.2.2.1,c0.2.2.2.2.2.2.2.2.2.1,c0.2.2.2.2.2.2.2.2.2.2)) (fun y1=>some y1)
theorem i_hasMsg_c1_walk (w:World) (a0:T_EMsg) (b0:Nat) (c0:T_EMsg) (h0:GT.rd w [] a0) (hb0:Cells w [] b0 0 (GT.cells c0)) (q0:GT.rd w [] c0) (r:Bool) (hp:i_hasMsg_c1 (GT.dat a0) (GT.dat c0)=some r):Spec Tryz.prog 117 ([(.agg (GT.cells a0).toArray:Value)]++[Value.pointer (some ⟨b0,0,none⟩)]).toArray w [] (IsV (.bool r)):=by
 obtain ⟨a0_1,a0_2,a0_3,⟨a0_4,a0_5⟩,a0_6,⟨a0_7,a0_8,a0_9,a0_10,a0_11,a0_12,a0_13,a0_14⟩,a0_15,a0_16,a0_17,a0_18,a0_19⟩:=a0
 obtain ⟨c0_1,c0_2,c0_3,⟨c0_4,c0_5⟩,c0_6,⟨c0_7,c0_8,c0_9,c0_10,c0_11,c0_12,c0_13,c0_14⟩,c0_15,c0_16,c0_17,c0_18,c0_19⟩:=c0
 change Spec _ _ ([Value.agg #[.int .i64 a0_1,.int .i64 a0_2,.int .i64 a0_3,.int .i64 a0_4,.int .i64 a0_5,.int .i64 a0_6,.int .i64 a0_7,.int .i64 a0_8,.int .i64 a0_9,.string a0_10,.string a0_11,.string a0_12,.int .i64 a0_13,(TL.hdr a0_14),.int .i64 a0_15,(TL.hdr a0_16),.int .i64 a0_17,.int .i64 a0_18,.bool a0_19],Value.pointer (some ⟨b0,0,none⟩)]:List Value).toArray w [] _
 refine Spec.intro Tryz.func117 rfl Tryz.ntmps117 rfl ?_
 unfold i_hasMsg_c1 at hp
 replace hp:=dd hp
 refine s2 ?_
 refine bx fun bk2=>?_
 refine s5 ?_
 refine L_loadW rfl rfl (RdC.old hb0) (by exact agg103.h) ?_
 replace hp:=ba hp;obtain ⟨y1,hy1,hp⟩:=hp
 refine L_callX rfl fn118.h rfl (by exact fun w hw=>i_SameMsg_walk w (a0_1,a0_2,a0_3,(a0_4,a0_5),a0_6,(a0_7,a0_8,a0_9,a0_10,a0_11,a0_12,a0_13,a0_14),a0_15,a0_16,a0_17,a0_18,a0_19) (c0_1,c0_2,c0_3,(c0_4,c0_5),c0_6,(c0_7,c0_8,c0_9,c0_10,c0_11,c0_12,c0_13,c0_14),c0_15,c0_16,c0_17,c0_18,c0_19) (RdT.now (RdT.pair RdT.int (RdT.pair RdT.int (RdT.pair RdT.int (RdT.pair (RdT.pair RdT.int RdT.int) (RdT.pair RdT.int (RdT.pair (RdT.pair RdT.int (RdT.pair RdT.int (RdT.pair RdT.int (RdT.pair RdT.str (RdT.pair RdT.str (RdT.pair RdT.str (RdT.pair RdT.int (RdT.old h0.2.2.2.2.2.1.2.2.2.2.2.2.2)))))))) (RdT.pair RdT.int (RdT.pair (RdT.old h0.2.2.2.2.2.2.2.1) (RdT.pair RdT.int (RdT.pair RdT.int RdT.bool)))))))))) hw) (RdT.now (RdT.pair RdT.int (RdT.pair RdT.int (RdT.pair RdT.int (RdT.pair (RdT.pair RdT.int RdT.int) (RdT.pair RdT.int (RdT.pair (RdT.pair RdT.int (RdT.pair RdT.int (RdT.pair RdT.int (RdT.pair RdT.str (RdT.pair RdT.str (RdT.pair RdT.str (RdT.pair RdT.int (RdT.old q0.2.2.2.2.2.1.2.2.2.2.2.2.2)))))))) (RdT.pair RdT.int (RdT.pair (RdT.old q0.2.2.2.2.2.2.2.1) (RdT.pair RdT.int (RdT.pair RdT.int RdT.bool)))))))))) hw) _ hy1) ?_
 refine s2 ?_
 obtain rfl:=sj hp
 refine s1 ?_
 refine res1 rfl (ResOK.tmp rfl) ⟨rfl,rfl⟩ ms
noncomputable def sl_IndexFunc_implEMsgimplEMsg (a0:List D_EMsg) (a1:D_EMsg→Option Bool):Option Int :=
 whileP (fun s1:Int=>cond (decide (s1 < (a0.length:Int))) (Option.bind (idx a0 s1) (fun y3=>Option.bind (a1 (y3.1,y3.2.1,y3.2.2.1,(y3.2.2.2.1.1,y3.2.2.2.1.2),y3.2.2.2.2.1,(y3.2.2.2.2.2.1.1,y3.2.2.2.2.2.1.2.1,y3.2.2.2.2.2.1.2.2.1,y3.2.2.2.2.2.1.2.2.2.1,y3.2.2.2.2.2.1.2.2.2.2.1,y3.2.2.2.2.2.1.2.2.2.2.2.1,y3.2.2.2.2.2.1.2.2.2.2.2.2.1,y3.2.2.2.2.2.1.2.2.2.2.2.2.2),y3.2.2.2.2.2.2.1,y3.2.2.2.2.2.2.2.1,y3.2.2.2.2.2.2.2.2.1,y3.2.2.2.2.2.2.2.2.2.1,y3.2.2.2.2.2.2.2.2.2.2)) (fun y4=>cond y4 (Option.map .inr (some s1)) (some (.inl (IntKind.wrap .i64 (s1+1))))))) (Option.map .inr (some (-1)))) 0
theorem sl_IndexFunc_implEMsgimplEMsg_walk (w:World) (a0:TL T_EMsg) (f1:Nat) (cs1:List Value) (a1:D_EMsg→Option Bool) (h0:GT.rd w [] a0) (hf1:IsFn Tryz.prog f1) (hk1:∀ (w':World) (F:List HP) (u0:T_EMsg) (v:Bool),Holds w [] F w'→GT.rd w' [] u0→a1 (GT.dat u0)=some v→Spec Tryz.prog f1 ([Value.agg (GT.cells u0).toArray]++cs1).toArray w' [] (IsV (.bool v))) (r:Int) (hp:sl_IndexFunc_implEMsgimplEMsg (GT.dat a0) a1=some r):Spec Tryz.prog 165 [(TL.hdr a0),.func (.func f1) #[] cs1.toArray].toArray w [] (IsV (.int .i64 r)):=by
 refine Spec.intro Tryz.func165 rfl Tryz.ntmps165 rfl ?_
 unfold sl_IndexFunc_implEMsgimplEMsg at hp
 replace hp:=dd hp
 refine s12 ?_
 refine W_while (σ:=Int) GT.dat (fun (v1_0:Int)=>[(8,.int .i64 v1_0)]) (fun (v1_0:Int)=>[]) [(0,_),(1,_),(7,_)] [] 0 hp sb ms ?_
 clear hp
 rintro v1_0 x1 hp hx1
 replace hp:=dd hp
 refine kq [0,1,7,8] ?_
 refine s5 ?_
 refine kp [0,1,7,8,9] ?_
 refine W_cond rfl (fun q2=>?_) (fun q2=>?_)
 ·replace hp:=cond_t q2 hp
  refine s13 ?_
  replace hp:=idx_bind hp;obtain ⟨⟨u3_1,u3_2,u3_3,⟨u3_4,u3_5⟩,u3_6,⟨u3_7,u3_8,u3_9,u3_10,u3_11,u3_12,u3_13,u3_14⟩,u3_15,u3_16,u3_17,u3_18,u3_19⟩,hy3,hp⟩:=hp
  refine L_idxA (X:=a0) rfl rfl rfl el27.h (RdT.old h0) hy3 ?_
  refine L_loadW rfl rfl (RdT.at (RdT.old h0) (hy3).2) (by exact agg103.h) ?_
  replace hp:=ba hp;obtain ⟨y4,hy4,hp⟩:=hp
  refine L_callVX rfl rfl hf1 rfl (by exact fun w hw=>hk1 w _ (u3_1,u3_2,u3_3,(u3_4,u3_5),u3_6,(u3_7,u3_8,u3_9,u3_10,u3_11,u3_12,u3_13,u3_14),u3_15,u3_16,u3_17,u3_18,u3_19) y4 hw (RdT.now (RdT.pair RdT.int (RdT.pair RdT.int (RdT.pair RdT.int (RdT.pair (RdT.pair RdT.int RdT.int) (RdT.pair RdT.int (RdT.pair (RdT.pair RdT.int (RdT.pair RdT.int (RdT.pair RdT.int (RdT.pair RdT.str (RdT.pair RdT.str (RdT.pair RdT.str (RdT.pair RdT.int (RdT.snd (RdT.snd (RdT.snd (RdT.snd (RdT.snd (RdT.snd (RdT.snd (RdT.fst (RdT.snd (RdT.snd (RdT.snd (RdT.snd (RdT.snd (RdT.of (RdT.old h0) (hy3).2))))))))))))))))))))) (RdT.pair RdT.int (RdT.pair (RdT.fst (RdT.snd (RdT.snd (RdT.snd (RdT.snd (RdT.snd (RdT.snd (RdT.snd (RdT.of (RdT.old h0) (hy3).2))))))))) (RdT.pair RdT.int (RdT.pair RdT.int RdT.bool)))))))))) hw) hy4) ?_
  refine s1 ?_
  refine kp [0,1,5,7,8,16] ?_
  refine W_cond rfl (fun q5=>?_) (fun q5=>?_)
  ·replace hp:=cond_t q5 hp
   refine s5 ?_
   replace hp:=map_any hp;obtain ⟨a6,hp,z_6⟩:=hp
   obtain rfl:=hx1 _ z_6
   obtain rfl:=sj hp
   refine s1 ?_
   refine res1 rfl (ResOK.tmp rfl) ⟨rfl,rfl⟩ ms
  ·replace hp:=cond_f q5 hp
   refine s5 ?_
   exact ⟨IntKind.wrap .i64 (v1_0+1),sb,(.sub ms),some_eq hp⟩
 ·replace hp:=cond_f q2 hp
  refine W_exit ?_
  replace hp:=map_any hp;obtain ⟨a7,hp,z_7⟩:=hp
  obtain rfl:=hx1 _ z_7
  refine s4 ?_
  obtain rfl:=sj hp
  refine s1 ?_
  refine res1 rfl (ResOK.tmp rfl) ⟨rfl,rfl⟩ ms
noncomputable def sl_ContainsFunc_implEMsgimplEMsg (a0:List D_EMsg) (a1:D_EMsg→Option Bool):Option Bool :=
 Option.bind (sl_IndexFunc_implEMsgimplEMsg a0 a1) (fun y1=>some (decide (0≤y1)))
theorem sl_ContainsFunc_implEMsgimplEMsg_walk (w:World) (a0:TL T_EMsg) (f1:Nat) (cs1:List Value) (a1:D_EMsg→Option Bool) (h0:GT.rd w [] a0) (hf1:IsFn Tryz.prog f1) (hk1:∀ (w':World) (F:List HP) (u0:T_EMsg) (v:Bool),Holds w [] F w'→GT.rd w' [] u0→a1 (GT.dat u0)=some v→Spec Tryz.prog f1 ([Value.agg (GT.cells u0).toArray]++cs1).toArray w' [] (IsV (.bool v))) (r:Bool) (hp:sl_ContainsFunc_implEMsgimplEMsg (GT.dat a0) a1=some r):Spec Tryz.prog 116 [(TL.hdr a0),.func (.func f1) #[] cs1.toArray].toArray w [] (IsV (.bool r)):=by
 refine Spec.intro Tryz.func116 rfl Tryz.ntmps116 rfl ?_
 unfold sl_ContainsFunc_implEMsgimplEMsg at hp
 replace hp:=dd hp
 refine s8 ?_
 replace hp:=ba hp;obtain ⟨y1,hy1,hp⟩:=hp
 refine L_callX rfl fn165.h rfl (by exact fun w hw=>sl_IndexFunc_implEMsgimplEMsg_walk w a0 f1 cs1 a1 (RdT.now (RdT.old h0) hw) hf1 (fun w' F u0 v hF hu0 hv=>hk1 w' _ u0 v (Holds.frame (M1:=[]) (M2:=_) hw hF) hu0 hv) _ hy1) ?_
 refine s3 ?_
 obtain rfl:=sj hp
 refine s1 ?_
 refine res1 rfl (ResOK.tmp rfl) ⟨rfl,rfl⟩ ms
noncomputable def i_hasMsg (a0:List D_EMsg) (a1:D_EMsg):Option Bool :=
 Option.bind (sl_ContainsFunc_implEMsgimplEMsg a0 (fun z0=>i_hasMsg_c1 z0 (a1.1,a1.2.1,a1.2.2.1,(a1.2.2.2.1.1,a1.2.2.2.1.2),a1.2.2.2.2.1,(a1.2.2.2.2.2.1.1,a1.2.2.2.2.2.1.2.1,a1.2.2.2.2.2.1.2.2.1,a1.2.2.2.2.2.1.2.2.2.1,a1.2.2.2.2.2.1.2.2.2.2.1,a1.2.2.2.2.2.1.2.2.2.2.2.1,a1.2.2.2.2.2.1.2.2.2.2.2.2.1,a1.2.2.2.2.2.1.2.2.2.2.2.2.2),a1.2.2.2.2.2.2.1,a1.2.2.2.2.2.2.2.1,a1.2.2.2.2.2.2.2.2.1,a1.2.2.2.2.2.2.2.2.2.1,a1.2.2.2.2.2.2.2.2.2.2))) (fun y1=>some y1)
theorem i_hasMsg_walk (w:World) (a0:TL T_EMsg) (a1:T_EMsg) (h0:GT.rd w [] a0) (h1:GT.rd w [] a1) (r:Bool) (hp:i_hasMsg (GT.dat a0) (GT.dat a1)=some r):Spec Tryz.prog 65 [(TL.hdr a0),.agg (GT.cells a1).toArray].toArray w [] (IsV (.bool r)):=by
 obtain ⟨a1_1,a1_2,a1_3,⟨a1_4,a1_5⟩,a1_6,⟨a1_7,a1_8,a1_9,a1_10,a1_11,a1_12,a1_13,a1_14⟩,a1_15,a1_16,a1_17,a1_18,a1_19⟩:=a1
 change Spec _ _ ([(TL.hdr a0),Value.agg #[.int .i64 a1_1,.int .i64 a1_2,.int .i64 a1_3,.int .i64 a1_4,.int .i64 a1_5,.int .i64 a1_6,.int .i64 a1_7,.int .i64 a1_8,.int .i64 a1_9,.string a1_10,.string a1_11,.string a1_12,.int .i64 a1_13,(TL.hdr a1_14),.int .i64 a1_15,(TL.hdr a1_16),.int .i64 a1_17,.int .i64 a1_18,.bool a1_19]]:List Value).toArray w [] _
 refine Spec.intro Tryz.func65 rfl Tryz.ntmps65 rfl ?_
 unfold i_hasMsg at hp
 replace hp:=dd hp
 refine s2 ?_
 refine bx fun bk3=>?_
 refine s5 ?_
 refine L_makeFunc (fs:=[]) (cs:=[.tmp 3]) rfl rfl rfl ?_
 replace hp:=ba hp;obtain ⟨y1,hy1,hp⟩:=hp
 refine L_callX rfl fn116.h rfl (by exact fun w hw=>sl_ContainsFunc_implEMsgimplEMsg_walk w a0 117 [Value.pointer (some ⟨bk3,0,none⟩)] (fun z0=>i_hasMsg_c1 z0 (a1_1,a1_2,a1_3,(a1_4,a1_5),a1_6,(a1_7,a1_8,a1_9,a1_10,a1_11,a1_12,a1_13,GT.dat a1_14),a1_15,GT.dat a1_16,a1_17,a1_18,a1_19)) (RdT.now (RdT.old h0) hw) fn117.h (fun w' F u0 v hF hu0 hv=>i_hasMsg_c1_walk w' u0 bk3 (a1_1,a1_2,a1_3,(a1_4,a1_5),a1_6,(a1_7,a1_8,a1_9,a1_10,a1_11,a1_12,a1_13,a1_14),a1_15,a1_16,a1_17,a1_18,a1_19) hu0 ((cells_of_blk mm hw.sees).carry hF) (rd_carry (RdT.now (RdT.pair RdT.int (RdT.pair RdT.int (RdT.pair RdT.int (RdT.pair (RdT.pair RdT.int RdT.int) (RdT.pair RdT.int (RdT.pair (RdT.pair RdT.int (RdT.pair RdT.int (RdT.pair RdT.int (RdT.pair RdT.str (RdT.pair RdT.str (RdT.pair RdT.str (RdT.pair RdT.int (RdT.old h1.2.2.2.2.2.1.2.2.2.2.2.2.2)))))))) (RdT.pair RdT.int (RdT.pair (RdT.old h1.2.2.2.2.2.2.2.1) (RdT.pair RdT.int (RdT.pair RdT.int RdT.bool)))))))))) hw) hF) v hv) _ hy1) ?_
 refine s2 ?_
 obtain rfl:=sj hp
 refine s1 ?_
 refine res1 rfl (ResOK.tmp rfl) ⟨rfl,rfl⟩ ms
noncomputable def i_copyENet (a0:D_ENet):Option D_ENet :=
 whileP (fun s1:Int×(List D_ENode)=>cond (decide (s1.1 < (a0.1.length:Int))) (Option.bind (idx a0.1 s1.1) (fun y3=>Option.bind (i_copyENode (y3.1,y3.2.1,y3.2.2.1,y3.2.2.2)) (fun y4=>Option.bind (appP s1.2 [(y4.1,y4.2.1,y4.2.2.1,y4.2.2.2)]) (fun y6=>some (.inl ((IntKind.wrap .i64 (s1.1+1),y6))))))) (Option.map .inr (whileP (fun s8:Int×(List D_EMsg)=>cond (decide (s8.1 < (a0.2.length:Int))) (Option.bind (idx a0.2 s8.1) (fun y10=>Option.bind (i_copyEMsg (y10.1,y10.2.1,y10.2.2.1,(y10.2.2.2.1.1,y10.2.2.2.1.2),y10.2.2.2.2.1,(y10.2.2.2.2.2.1.1,y10.2.2.2.2.2.1.2.1,y10.2.2.2.2.2.1.2.2.1,y10.2.2.2.2.2.1.2.2.2.1,y10.2.2.2.2.2.1.2.2.2.2.1,y10.2.2.2.2.2.1.2.2.2.2.2.1,y10.2.2.2.2.2.1.2.2.2.2.2.2.1,y10.2.2.2.2.2.1.2.2.2.2.2.2.2),y10.2.2.2.2.2.2.1,y10.2.2.2.2.2.2.2.1,y10.2.2.2.2.2.2.2.2.1,y10.2.2.2.2.2.2.2.2.2.1,y10.2.2.2.2.2.2.2.2.2.2)) (fun y11=>Option.bind (appP s8.2 [(y11.1,y11.2.1,y11.2.2.1,(y11.2.2.2.1.1,y11.2.2.2.1.2),y11.2.2.2.2.1,(y11.2.2.2.2.2.1.1,y11.2.2.2.2.2.1.2.1,y11.2.2.2.2.2.1.2.2.1,y11.2.2.2.2.2.1.2.2.2.1,y11.2.2.2.2.2.1.2.2.2.2.1,y11.2.2.2.2.2.1.2.2.2.2.2.1,y11.2.2.2.2.2.1.2.2.2.2.2.2.1,y11.2.2.2.2.2.1.2.2.2.2.2.2.2),y11.2.2.2.2.2.2.1,y11.2.2.2.2.2.2.2.1,y11.2.2.2.2.2.2.2.2.1,y11.2.2.2.2.2.2.2.2.2.1,y11.2.2.2.2.2.2.2.2.2.2)]) (fun y13=>some (.inl ((IntKind.wrap .i64 (s8.1+1),y13))))))) (Option.map .inr (some (s1.2,s8.2)))) (0,([]:List D_EMsg))))) (0,([]:List D_ENode))
theorem i_copyENet_walk (w:World) (a0:T_ENet) (h0:GT.rd w [] a0) (r:D_ENet) (hp:i_copyENet (GT.dat a0)=some r):Spec Tryz.prog 67 [.agg (GT.cells a0).toArray].toArray w [] (fun v M=>∃ (x0:T_ENet),v=.agg (GT.cells x0).toArray∧GT.dat x0=r∧M=[treeH x0]):=by
 obtain ⟨a0_1,a0_2⟩:=a0
 change Spec _ _ ([Value.agg #[(TL.hdr a0_1),(TL.hdr a0_2)]]:List Value).toArray w [] _
 refine Spec.intro Tryz.func67 rfl Tryz.ntmps67 rfl ?_
 unfold i_copyENet at hp
 replace hp:=dd hp
 refine s2 ?_
 refine bx fun bk1=>?_
 refine al fun bk2=>?_
 refine s3 ?_
 refine L_build (xs:=[]) (cs:=[(TL.hdr (TL.nil T_ENode 0)),(TL.hdr (TL.nil T_EMsg 0))]) rfl rfl bld29.h rfl ?_
 refine al fun bk3=>?_
 refine s11 ?_
 refine W_conv (M':=treeH (TL.nil T_ENode 0)::_) (fun w h=>addNilT (τ:=T_ENode) 0 h) ?_
 refine W_while (σ:=Int×(TL T_ENode)) GT.dat (fun ((v1_0,v1_1):Int×(TL T_ENode))=>[(12,.int .i64 v1_0)]) (fun ((v1_0,v1_1):Int×(TL T_ENode))=>[blk bk3 [(TL.hdr v1_1),(TL.hdr (TL.nil T_EMsg 0))] 29,treeH v1_1]) [(1,_),(2,_),(3,_),(10,_),(11,_)] [blk bk1 _ _,blk bk2 _ _] (0,(TL.nil T_ENode 0)) hp sb ms ?_
 clear hp
 rintro ⟨v1_0,v1_1⟩ x1 hp hx1
 replace hp:=dd hp
 refine kq [1,2,3,10,11,12] ?_
 refine s5 ?_
 refine kp [1,2,3,10,11,12,13] ?_
 refine W_cond rfl (fun q2=>?_) (fun q2=>?_)
 ·replace hp:=cond_t q2 hp
  refine s5 ?_
  replace hp:=idx_bind hp;obtain ⟨⟨u3_1,u3_2,u3_3,u3_4⟩,hy3,hp⟩:=hp
  refine L_idxA (X:=a0_1) rfl rfl rfl el26.h (RdT.old h0.1) hy3 ?_
  refine L_loadW rfl rfl (RdT.at (RdT.old h0.1) (hy3).2) (by exact agg44.h) ?_
  refine al fun bk5=>?_
  refine s2 ?_
  refine W_AG [] 7 mix ?_
  refine AG_take 0 [] rfl (PU_fieldAddr rfl rfl fld29_0.h) (by kernel_rfl) (by kernel_rfl) (by kernel_rfl) (by kernel_rfl) rfl (by kernel_rfl) trivial ?_
  refine AG_A [blk bk3 [(TL.hdr v1_1),(TL.hdr (TL.nil T_EMsg 0))] 29] trivial ?_
  refine AG_take 1 [] rfl (PU_load rfl rfl (RdC.blk mm) one26.h rfl) (by kernel_rfl) (by kernel_rfl) (by kernel_rfl) (by kernel_rfl) rfl (by kernel_rfl) ⟨mm,trivial⟩ ?_
  refine AG_A [blk bk5 [.int .i64 u3_1,.int .i64 u3_2,(TL.hdr u3_3),(TL.hdr u3_4)] 44,blk bk3 [(TL.hdr v1_1),(TL.hdr (TL.nil T_EMsg 0))] 29] ⟨mm,trivial⟩ ?_
  refine AG_take 2 [] rfl (PU_loadW rfl rfl (RdC.blk mm) (by exact agg44.h)) (by kernel_rfl) (by kernel_rfl) (by kernel_rfl) (by kernel_rfl) rfl (by kernel_rfl) ⟨mm,⟨mm,trivial⟩⟩ ?_
  refine AG_one 3 rfl rfl (by kernel_rfl) ?_
  replace hp:=ba hp;obtain ⟨y4,hy4,hp⟩:=hp
  refine L_callR rfl fn119.h rfl (by exact fun w hw=>i_copyENode_walk w (u3_1,u3_2,u3_3,u3_4) (RdT.now (RdT.pair RdT.int (RdT.pair RdT.int (RdT.pair (RdT.fst (RdT.snd (RdT.snd (RdT.of (RdT.old h0.1) (hy3).2)))) (RdT.snd (RdT.snd (RdT.snd (RdT.of (RdT.old h0.1) (hy3).2))))))) hw) _ hy4) ?_
  rintro _ _ ⟨⟨y4x0_1,y4x0_2,y4x0_3,y4x0_4⟩,rfl,rfl,rfl⟩
  refine sc ?_
  replace hp:=dd hp
  refine xL ((y4x0_1,y4x0_2,y4x0_3,y4x0_4):T_ENode) ?_
  refine L_nil ⟨⟨mm,⟨mm,trivial⟩⟩,?_⟩
  refine AG_one 4 rfl rfl (by kernel_rfl) ?_
  refine L_buildSlice1 rfl rfl el26.h rfl (by decide) (by decide) rfl (fun bb20=>?_)
  refine L_nil ⟨⟨mm,⟨mm,trivial⟩⟩,?_⟩
  refine AG_one 5 rfl rfl (by kernel_rfl) ?_
  replace hp:=ba hp;obtain ⟨y6,hy6,hp⟩:=hp
  refine jL ((y4x0_1,y4x0_2,y4x0_3,y4x0_4):T_ENode) ?_
  refine L_app1m (X:=v1_1) ((y4x0_1,y4x0_2,y4x0_3,y4x0_4):T_ENode) rfl rfl rfl el26.h rfl rfl pk mm pk hy6 (by decide) (fun X5 hdX5 hmX5=>?_)
  subst hdX5
  refine L_nil ⟨⟨mm,⟨mm,trivial⟩⟩,?_⟩
  refine AG_take 6 [] rfl (PU_fieldAddr rfl rfl fld29_0.h) (by kernel_rfl) (by kernel_rfl) (by kernel_rfl) (by kernel_rfl) rfl (by kernel_rfl) ⟨mm,⟨mm,trivial⟩⟩ ?_
  refine AG_last 7 rfl rfl (by kernel_rfl) (by kernel_rfl) ?_
  refine s2 ?_
  refine AG_done (by kernel_rfl) ?_
  refine s4 ?_
  exact ⟨(IntKind.wrap .i64 (v1_0+1),X5),sb,(.sub ms),some_eq hp⟩
 ·replace hp:=cond_f q2 hp
  refine W_exit ?_
  replace hp:=map_any hp;obtain ⟨a7,hp,z_7⟩:=hp
  obtain rfl:=hx1 _ z_7
  refine s9 ?_
  refine W_conv (M':=treeH (TL.nil T_EMsg 0)::_) (fun w h=>addNilT (τ:=T_EMsg) 0 h) ?_
  refine W_while (σ:=Int×(TL T_EMsg)) GT.dat (fun ((v8_0,v8_1):Int×(TL T_EMsg))=>[(27,.int .i64 v8_0)]) (fun ((v8_0,v8_1):Int×(TL T_EMsg))=>[blk bk3 [(TL.hdr v1_1),(TL.hdr v8_1)] 29,treeH v8_1]) [(2,_),(3,_),(25,_),(26,_)] [blk bk2 _ _,treeH v1_1] (0,(TL.nil T_EMsg 0)) hp sb ms ?_
  clear hp
  rintro ⟨v8_0,v8_1⟩ x8 hp hx8
  replace hp:=dd hp
  refine kq [2,3,25,26,27] ?_
  refine s5 ?_
  refine kp [2,3,25,26,27,28] ?_
  refine W_cond rfl (fun q9=>?_) (fun q9=>?_)
  ·replace hp:=cond_t q9 hp
   refine s5 ?_
   replace hp:=idx_bind hp;obtain ⟨⟨u10_1,u10_2,u10_3,⟨u10_4,u10_5⟩,u10_6,⟨u10_7,u10_8,u10_9,u10_10,u10_11,u10_12,u10_13,u10_14⟩,u10_15,u10_16,u10_17,u10_18,u10_19⟩,hy10,hp⟩:=hp
   refine L_idxA (X:=a0_2) rfl rfl rfl el27.h (RdT.old h0.2) hy10 ?_
   refine L_loadW rfl rfl (RdT.at (RdT.old h0.2) (hy10).2) (by exact agg103.h) ?_
   refine al fun bk7=>?_
   refine s2 ?_
   refine W_AG [] 7 mix ?_
   refine AG_take 0 [] rfl (PU_fieldAddr rfl rfl fld29_1.h) (by kernel_rfl) (by kernel_rfl) (by kernel_rfl) (by kernel_rfl) rfl (by kernel_rfl) trivial ?_
   refine AG_A [blk bk3 [(TL.hdr v1_1),(TL.hdr v8_1)] 29] trivial ?_
   refine AG_take 1 [] rfl (PU_load rfl rfl (RdC.blk mm) one27.h rfl) (by kernel_rfl) (by kernel_rfl) (by kernel_rfl) (by kernel_rfl) rfl (by kernel_rfl) ⟨mm,trivial⟩ ?_
   refine AG_A [blk bk7 [.int .i64 u10_1,.int .i64 u10_2,.int .i64 u10_3,.int .i64 u10_4,.int .i64 u10_5,.int .i64 u10_6,.int .i64 u10_7,.int .i64 u10_8,.int .i64 u10_9,.string u10_10,.string u10_11,.string u10_12,.int .i64 u10_13,(TL.hdr u10_14),.int .i64 u10_15,(TL.hdr u10_16),.int .i64 u10_17,.int .i64 u10_18,.bool u10_19] 103,blk bk3 [(TL.hdr v1_1),(TL.hdr v8_1)] 29] ⟨mm,trivial⟩ ?_
   refine AG_take 2 [] rfl (PU_loadW rfl rfl (RdC.blk mm) (by exact agg103.h)) (by kernel_rfl) (by kernel_rfl) (by kernel_rfl) (by kernel_rfl) rfl (by kernel_rfl) ⟨mm,⟨mm,trivial⟩⟩ ?_
   refine AG_one 3 rfl rfl (by kernel_rfl) ?_
   replace hp:=ba hp;obtain ⟨y11,hy11,hp⟩:=hp
   refine L_callR rfl fn120.h rfl (by exact fun w hw=>i_copyEMsg_walk w (u10_1,u10_2,u10_3,(u10_4,u10_5),u10_6,(u10_7,u10_8,u10_9,u10_10,u10_11,u10_12,u10_13,u10_14),u10_15,u10_16,u10_17,u10_18,u10_19) (RdT.now (RdT.pair RdT.int (RdT.pair RdT.int (RdT.pair RdT.int (RdT.pair (RdT.pair RdT.int RdT.int) (RdT.pair RdT.int (RdT.pair (RdT.pair RdT.int (RdT.pair RdT.int (RdT.pair RdT.int (RdT.pair RdT.str (RdT.pair RdT.str (RdT.pair RdT.str (RdT.pair RdT.int (RdT.snd (RdT.snd (RdT.snd (RdT.snd (RdT.snd (RdT.snd (RdT.snd (RdT.fst (RdT.snd (RdT.snd (RdT.snd (RdT.snd (RdT.snd (RdT.of (RdT.old h0.2) (hy10).2))))))))))))))))))))) (RdT.pair RdT.int (RdT.pair (RdT.fst (RdT.snd (RdT.snd (RdT.snd (RdT.snd (RdT.snd (RdT.snd (RdT.snd (RdT.of (RdT.old h0.2) (hy10).2))))))))) (RdT.pair RdT.int (RdT.pair RdT.int RdT.bool)))))))))) hw) _ hy11) ?_
   rintro _ _ ⟨⟨y11x0_1,y11x0_2,y11x0_3,⟨y11x0_4,y11x0_5⟩,y11x0_6,⟨y11x0_7,y11x0_8,y11x0_9,y11x0_10,y11x0_11,y11x0_12,y11x0_13,y11x0_14⟩,y11x0_15,y11x0_16,y11x0_17,y11x0_18,y11x0_19⟩,rfl,rfl,rfl⟩
   refine sc ?_
   replace hp:=dd hp
   refine xL ((y11x0_1,y11x0_2,y11x0_3,(y11x0_4,y11x0_5),y11x0_6,(y11x0_7,y11x0_8,y11x0_9,y11x0_10,y11x0_11,y11x0_12,y11x0_13,y11x0_14),y11x0_15,y11x0_16,y11x0_17,y11x0_18,y11x0_19):T_EMsg) ?_
   refine L_nil ⟨⟨mm,⟨mm,trivial⟩⟩,?_⟩
   refine AG_one 4 rfl rfl (by kernel_rfl) ?_
   refine L_buildSlice1 rfl rfl el27.h rfl (by decide) (by decide) rfl (fun bb35=>?_)
   refine L_nil ⟨⟨mm,⟨mm,trivial⟩⟩,?_⟩
   refine AG_one 5 rfl rfl (by kernel_rfl) ?_
   replace hp:=ba hp;obtain ⟨y13,hy13,hp⟩:=hp
   refine jL ((y11x0_1,y11x0_2,y11x0_3,(y11x0_4,y11x0_5),y11x0_6,(y11x0_7,y11x0_8,y11x0_9,y11x0_10,y11x0_11,y11x0_12,y11x0_13,y11x0_14),y11x0_15,y11x0_16,y11x0_17,y11x0_18,y11x0_19):T_EMsg) ?_
   refine L_app1m (X:=v8_1) ((y11x0_1,y11x0_2,y11x0_3,(y11x0_4,y11x0_5),y11x0_6,(y11x0_7,y11x0_8,y11x0_9,y11x0_10,y11x0_11,y11x0_12,y11x0_13,y11x0_14),y11x0_15,y11x0_16,y11x0_17,y11x0_18,y11x0_19):T_EMsg) rfl rfl rfl el27.h rfl rfl pk mm pk hy13 (by decide) (fun X12 hdX12 hmX12=>?_)
   subst hdX12
   refine L_nil ⟨⟨mm,⟨mm,trivial⟩⟩,?_⟩
   refine AG_take 6 [] rfl (PU_fieldAddr rfl rfl fld29_1.h) (by kernel_rfl) (by kernel_rfl) (by kernel_rfl) (by kernel_rfl) rfl (by kernel_rfl) ⟨mm,⟨mm,trivial⟩⟩ ?_
   refine AG_last 7 rfl rfl (by kernel_rfl) (by kernel_rfl) ?_
   refine s2 ?_
   refine AG_done (by kernel_rfl) ?_
   refine s4 ?_
   exact ⟨(IntKind.wrap .i64 (v8_0+1),X12),sb,(.sub ms),some_eq hp⟩
  ·replace hp:=cond_f q9 hp
   refine W_exit ?_
   replace hp:=map_any hp;obtain ⟨a14,hp,z_14⟩:=hp
   obtain rfl:=hx8 _ z_14
   refine s5 ?_
   obtain rfl:=sj hp
   refine jW ((v1_1,v8_1):T_ENet) ?_
   refine s1 ?_
   refine res1 rfl (ResOK.cell rfl mm (by exact agg29.h)) ⟨(v1_1,v8_1),rfl,rfl,rfl⟩ ms
noncomputable def i_ENetOk (a0:D_ENet):Option Bool :=
 cond ((!decide ((a0.1.length:Int)=3))||(decide (160 < (a0.2.length:Int)))) (some false) (whileP (fun s2:Int=>cond (decide (s2 < (a0.1.length:Int))) (Option.bind (idx a0.1 s2) (fun y4=>Option.bind (i_ENodeOk (y4.1,y4.2.1,y4.2.2.1,y4.2.2.2)) (fun y5=>cond ((!y5)||(!decide (y4.1=s2))) (Option.map .inr (some false)) (some (.inl (IntKind.wrap .i64 (s2+1))))))) (Option.map .inr (whileP (fun s9:Int=>cond (decide (s9 < (a0.2.length:Int))) (Option.bind (idx a0.2 s9) (fun y11=>Option.bind (i_EMsgOk (y11.1,y11.2.1,y11.2.2.1,(y11.2.2.2.1.1,y11.2.2.2.1.2),y11.2.2.2.2.1,(y11.2.2.2.2.2.1.1,y11.2.2.2.2.2.1.2.1,y11.2.2.2.2.2.1.2.2.1,y11.2.2.2.2.2.1.2.2.2.1,y11.2.2.2.2.2.1.2.2.2.2.1,y11.2.2.2.2.2.1.2.2.2.2.2.1,y11.2.2.2.2.2.1.2.2.2.2.2.2.1,y11.2.2.2.2.2.1.2.2.2.2.2.2.2),y11.2.2.2.2.2.2.1,y11.2.2.2.2.2.2.2.1,y11.2.2.2.2.2.2.2.2.1,y11.2.2.2.2.2.2.2.2.2.1,y11.2.2.2.2.2.2.2.2.2.2)) (fun y12=>gb (!(!y12)) (slcP a0.2 0 s9) (fun y14=>gb (!(!y12)) (i_hasMsg y14 (y11.1,y11.2.1,y11.2.2.1,(y11.2.2.2.1.1,y11.2.2.2.1.2),y11.2.2.2.2.1,(y11.2.2.2.2.2.1.1,y11.2.2.2.2.2.1.2.1,y11.2.2.2.2.2.1.2.2.1,y11.2.2.2.2.2.1.2.2.2.1,y11.2.2.2.2.2.1.2.2.2.2.1,y11.2.2.2.2.2.1.2.2.2.2.2.1,y11.2.2.2.2.2.1.2.2.2.2.2.2.1,y11.2.2.2.2.2.1.2.2.2.2.2.2.2),y11.2.2.2.2.2.2.1,y11.2.2.2.2.2.2.2.1,y11.2.2.2.2.2.2.2.2.1,y11.2.2.2.2.2.2.2.2.2.1,y11.2.2.2.2.2.2.2.2.2.2)) (fun y15=>cond ((!y12)||y15) (Option.map .inr (some false)) (some (.inl (IntKind.wrap .i64 (s9+1))))))))) (Option.map .inr (some true))) 0))) 0)
theorem i_ENetOk_walk (w:World) (a0:T_ENet) (h0:GT.rd w [] a0) (r:Bool) (hp:i_ENetOk (GT.dat a0)=some r):Spec Tryz.prog 35 [.agg (GT.cells a0).toArray].toArray w [] (IsV (.bool r)):=by
 obtain ⟨a0_1,a0_2⟩:=a0
 change Spec _ _ ([Value.agg #[(TL.hdr a0_1),(TL.hdr a0_2)]]:List Value).toArray w [] _
 refine Spec.intro Tryz.func35 rfl Tryz.ntmps35 rfl ?_
 unfold i_ENetOk at hp
 replace hp:=dd hp
 refine s2 ?_
 refine bx fun bk1=>?_
 refine s4 ?_
 refine W_D0 [16] mix (by kernel_rfl) rfl ?_
 refine s2 ?_
 refine D_lenP (X:=a0_1) GC.none (OpV.t rfl) el26.h ?_
 refine s4 ?_
 refine D_lenP (X:=a0_2) (GC.some rfl rfl) (OpV.s rfl) el27.h ?_
 refine s14 ?_
 refine kp [1,16] ?_
 refine W_cond rfl (fun q1=>?_) (fun q1=>?_)
 ·replace hp:=cond_t q1 hp
  refine s4 ?_
  obtain rfl:=sj hp
  refine s1 ?_
  refine res1 rfl (ResOK.tmp rfl) ⟨rfl,rfl⟩ ms
 ·replace hp:=cond_f q1 hp
  refine s10 ?_
  refine W_while (σ:=Int) GT.dat (fun (v2_0:Int)=>[(20,.int .i64 v2_0)]) (fun (v2_0:Int)=>[]) [(1,_),(18,_),(19,_)] [blk bk1 _ _] 0 hp sb ms ?_
  clear hp
  rintro v2_0 x2 hp hx2
  replace hp:=dd hp
  refine kq [1,18,19,20] ?_
  refine s5 ?_
  refine kp [1,18,19,20,21] ?_
  refine W_cond rfl (fun q3=>?_) (fun q3=>?_)
  ·replace hp:=cond_t q3 hp
   refine s6 ?_
   replace hp:=idx_bind hp;obtain ⟨⟨u4_1,u4_2,u4_3,u4_4⟩,hy4,hp⟩:=hp
   refine L_idxA (X:=a0_1) rfl rfl rfl el26.h (RdT.old h0.1) hy4 ?_
   refine L_loadW rfl rfl (RdT.at (RdT.old h0.1) (hy4).2) (by exact agg44.h) ?_
   refine al fun bk4=>?_
   refine s4 ?_
   replace hp:=ba hp;obtain ⟨y5,hy5,hp⟩:=hp
   refine W_D0 [33] mix (by kernel_rfl) rfl ?_
   refine s1 ?_
   refine D_callX GC.none fn63.h (OpVs.cons (OpV.t rfl) (OpVs.nil)) (by exact fun hg w F hF hM=>i_ENodeOk_walk w (u4_1,u4_2,u4_3,u4_4) (RdT.nowS (RdT.pair RdT.int (RdT.pair RdT.int (RdT.pair (RdT.fst (RdT.snd (RdT.snd (RdT.of (RdT.old h0.1) (hy4).2)))) (RdT.snd (RdT.snd (RdT.snd (RdT.of (RdT.old h0.1) (hy4).2))))))) hF hM) _ hy5) ?_
   refine s18 ?_
   refine kp [1,18,19,20,33] ?_
   refine W_cond rfl (fun q6=>?_) (fun q6=>?_)
   ·replace hp:=cond_t q6 hp
    refine s4 ?_
    replace hp:=map_any hp;obtain ⟨a7,hp,z_7⟩:=hp
    obtain rfl:=hx2 _ z_7
    obtain rfl:=sj hp
    refine s1 ?_
    refine res1 rfl (ResOK.tmp rfl) ⟨rfl,rfl⟩ ms
   ·replace hp:=cond_f q6 hp
    refine s5 ?_
    exact ⟨IntKind.wrap .i64 (v2_0+1),sb,(.sub ms),some_eq hp⟩
  ·replace hp:=cond_f q3 hp
   refine W_exit ?_
   replace hp:=map_any hp;obtain ⟨a8,hp,z_8⟩:=hp
   obtain rfl:=hx2 _ z_8
   refine s9 ?_
   refine W_while (σ:=Int) GT.dat (fun (v9_0:Int)=>[(38,.int .i64 v9_0)]) (fun (v9_0:Int)=>[]) [(1,_),(36,_),(37,_)] [blk bk1 _ _] 0 hp sb ms ?_
   clear hp
   rintro v9_0 x9 hp hx9
   replace hp:=dd hp
   refine kq [1,36,37,38] ?_
   refine s5 ?_
   refine kp [1,36,37,38,39] ?_
   refine W_cond rfl (fun q10=>?_) (fun q10=>?_)
   ·replace hp:=cond_t q10 hp
    refine s6 ?_
    replace hp:=idx_bind hp;obtain ⟨⟨u11_1,u11_2,u11_3,⟨u11_4,u11_5⟩,u11_6,⟨u11_7,u11_8,u11_9,u11_10,u11_11,u11_12,u11_13,u11_14⟩,u11_15,u11_16,u11_17,u11_18,u11_19⟩,hy11,hp⟩:=hp
    refine L_idxA (X:=a0_2) rfl rfl rfl el27.h (RdT.old h0.2) hy11 ?_
    refine L_loadW rfl rfl (RdT.at (RdT.old h0.2) (hy11).2) (by exact agg103.h) ?_
    refine al fun bk6=>?_
    refine s4 ?_
    replace hp:=ba hp;obtain ⟨y12,hy12,hp⟩:=hp
    replace hp:=gb_anyD hp;obtain ⟨y14,hy14,hny14,hp⟩:=hp
    replace hp:=gb_any hp;obtain ⟨y15,hy15,hp⟩:=hp
    refine W_D0 [53] mix (by kernel_rfl) rfl ?_
    refine s1 ?_
    refine D_callX GC.none fn64.h (OpVs.cons (OpV.t rfl) (OpVs.nil)) (by exact fun hg w F hF hM=>i_EMsgOk_walk w (u11_1,u11_2,u11_3,(u11_4,u11_5),u11_6,(u11_7,u11_8,u11_9,u11_10,u11_11,u11_12,u11_13,u11_14),u11_15,u11_16,u11_17,u11_18,u11_19) (RdT.nowS (RdT.pair RdT.int (RdT.pair RdT.int (RdT.pair RdT.int (RdT.pair (RdT.pair RdT.int RdT.int) (RdT.pair RdT.int (RdT.pair (RdT.pair RdT.int (RdT.pair RdT.int (RdT.pair RdT.int (RdT.pair RdT.str (RdT.pair RdT.str (RdT.pair RdT.str (RdT.pair RdT.int (RdT.snd (RdT.snd (RdT.snd (RdT.snd (RdT.snd (RdT.snd (RdT.snd (RdT.fst (RdT.snd (RdT.snd (RdT.snd (RdT.snd (RdT.snd (RdT.of (RdT.old h0.2) (hy11).2))))))))))))))))))))) (RdT.pair RdT.int (RdT.pair (RdT.fst (RdT.snd (RdT.snd (RdT.snd (RdT.snd (RdT.snd (RdT.snd (RdT.snd (RdT.of (RdT.old h0.2) (hy11).2))))))))) (RdT.pair RdT.int (RdT.pair RdT.int RdT.bool)))))))))) hF hM) _ hy12) ?_
    refine s5 ?_
    refine D_slcG (X:=a0_2) (GC.some rfl rfl) (OpV.s rfl) optD.none (optD.some (OpV.s rfl)) el27.h rfl (RdT.old h0.2) (fun hg=>hy14 (gnot hg.2)) (fun hn=>hny14 (by simpa using hn)) (fun X13 hdX13 hRX13=>?_)
    subst hdX13
    refine s1 ?_
    refine D_callX (GC.some rfl rfl) fn65.h (OpVs.cons (OpV.s rfl) (OpVs.cons (OpV.s rfl) (OpVs.nil))) (by exact fun hg w F hF hM=>i_hasMsg_walk w X13 (u11_1,u11_2,u11_3,(u11_4,u11_5),u11_6,(u11_7,u11_8,u11_9,u11_10,u11_11,u11_12,u11_13,u11_14),u11_15,u11_16,u11_17,u11_18,u11_19) (RdT.nowS (RdT.map hRX13 (RdT.old h0.2)) hF hM) (RdT.nowS (RdT.pair RdT.int (RdT.pair RdT.int (RdT.pair RdT.int (RdT.pair (RdT.pair RdT.int RdT.int) (RdT.pair RdT.int (RdT.pair (RdT.pair RdT.int (RdT.pair RdT.int (RdT.pair RdT.int (RdT.pair RdT.str (RdT.pair RdT.str (RdT.pair RdT.str (RdT.pair RdT.int (RdT.snd (RdT.snd (RdT.snd (RdT.snd (RdT.snd (RdT.snd (RdT.snd (RdT.fst (RdT.snd (RdT.snd (RdT.snd (RdT.snd (RdT.snd (RdT.of (RdT.old h0.2) (hy11).2))))))))))))))))))))) (RdT.pair RdT.int (RdT.pair (RdT.fst (RdT.snd (RdT.snd (RdT.snd (RdT.snd (RdT.snd (RdT.snd (RdT.snd (RdT.of (RdT.old h0.2) (hy11).2))))))))) (RdT.pair RdT.int (RdT.pair RdT.int RdT.bool)))))))))) hF hM) _ (hy15 (gnot hg.2))) ?_
    refine s14 ?_
    refine kp [1,36,37,38,53] ?_
    refine W_cond rfl (fun q16=>?_) (fun q16=>?_)
    ·replace hp:=cond_t q16 hp
     refine s4 ?_
     replace hp:=map_any hp;obtain ⟨a17,hp,z_17⟩:=hp
     obtain rfl:=hx9 _ z_17
     obtain rfl:=sj hp
     refine s1 ?_
     refine res1 rfl (ResOK.tmp rfl) ⟨rfl,rfl⟩ ms
    ·replace hp:=cond_f q16 hp
     refine s5 ?_
     exact ⟨IntKind.wrap .i64 (v9_0+1),sb,(.sub ms),some_eq hp⟩
   ·replace hp:=cond_f q10 hp
    refine W_exit ?_
    replace hp:=map_any hp;obtain ⟨a18,hp,z_18⟩:=hp
    obtain rfl:=hx9 _ z_18
    refine s4 ?_
    obtain rfl:=sj hp
    refine s1 ?_
    refine res1 rfl (ResOK.tmp rfl) ⟨rfl,rfl⟩ ms
noncomputable def i_ENetNew :Option D_ENet :=
 whileP (fun s1:Int×(List D_ENode)=>cond (decide (s1.1 < 3)) (Option.bind (i_ENodeNew s1.1) (fun y3=>Option.bind (appP s1.2 [(y3.1.1,y3.1.2.1,y3.1.2.2.1,y3.1.2.2.2)]) (fun y5=>some (.inl ((IntKind.wrap .i64 (s1.1+1),y5)))))) (Option.map .inr (some (s1.2,([]:List D_EMsg))))) (0,([]:List D_ENode))
theorem i_ENetNew_walk (w:World)   (r:D_ENet) (hp:i_ENetNew =some r):Spec Tryz.prog 8 [].toArray w [] (fun v M=>∃ (x0:T_ENet),v=.agg (GT.cells x0).toArray∧GT.dat x0=r∧M=[treeH x0]):=by
 refine Spec.intro Tryz.func8 rfl Tryz.ntmps8 rfl ?_
 unfold i_ENetNew at hp
 replace hp:=dd hp
 refine s2 ?_
 refine al fun bk0=>?_
 refine s3 ?_
 refine L_build (xs:=[]) (cs:=[(TL.hdr (TL.nil T_ENode 0)),(TL.hdr (TL.nil T_EMsg 0))]) rfl rfl bld29.h rfl ?_
 refine al fun bk1=>?_
 refine s8 ?_
 refine W_conv (M':=treeH (TL.nil T_ENode 0)::_) (fun w h=>addNilT (τ:=T_ENode) 0 h) ?_
 refine W_while (σ:=Int×(TL T_ENode)) GT.dat (fun ((v1_0,v1_1):Int×(TL T_ENode))=>[(6,.int .i64 v1_0)]) (fun ((v1_0,v1_1):Int×(TL T_ENode))=>[blk bk1 [(TL.hdr v1_1),(TL.hdr (TL.nil T_EMsg 0))] 29,treeH v1_1]) [(0,_),(1,_)] [blk bk0 _ _] (0,(TL.nil T_ENode 0)) hp sb ms ?_
 clear hp
 rintro ⟨v1_0,v1_1⟩ x1 hp hx1
 replace hp:=dd hp
 refine kq [0,1,6] ?_
 refine s5 ?_
 refine kp [0,1,6,7] ?_
 refine W_cond rfl (fun q2=>?_) (fun q2=>?_)
 ·replace hp:=cond_t q2 hp
  refine s11 ?_
  replace hp:=ba hp;obtain ⟨y3,hy3,hp⟩:=hp
  refine L_callR rfl fn34.h rfl (by exact fun w hw=>i_ENodeNew_walk w v1_0  _ hy3) ?_
  rintro _ _ ⟨⟨y3x0_1,y3x0_2,y3x0_3,y3x0_4⟩,y3x1,rfl,rfl,rfl⟩
  refine sc ?_
  replace hp:=dd hp
  refine xL ((y3x0_1,y3x0_2,y3x0_3,y3x0_4):T_ENode) ?_
  refine s3 ?_
  refine al fun bk3=>?_
  refine s7 ?_
  refine L_buildSlice1 rfl rfl el26.h rfl (by decide) (by decide) rfl (fun bb17=>?_)
  replace hp:=ba hp;obtain ⟨y5,hy5,hp⟩:=hp
  refine jL ((y3x0_1,y3x0_2,y3x0_3,y3x0_4):T_ENode) ?_
  refine L_app1m (X:=v1_1) ((y3x0_1,y3x0_2,y3x0_3,y3x0_4):T_ENode) rfl rfl rfl el26.h rfl rfl pk mm pk hy5 (by decide) (fun X4 hdX4 hmX4=>?_)
  subst hdX4
  refine s7 ?_
  exact ⟨(IntKind.wrap .i64 (v1_0+1),X4),sb,(.sub ms),some_eq hp⟩
 ·replace hp:=cond_f q2 hp
  refine W_exit ?_
  replace hp:=map_any hp;obtain ⟨a6,hp,z_6⟩:=hp
  obtain rfl:=hx1 _ z_6
  refine s5 ?_
  obtain rfl:=sj hp
  refine W_conv (M':=treeH (TL.nil T_EMsg 0)::_) (fun w h=>addNilT (τ:=T_EMsg) 0 h) ?_
  refine jW ((v1_1,(TL.nil T_EMsg 0)):T_ENet) ?_
  refine s1 ?_
  refine res1 rfl (ResOK.cell rfl mm (by exact agg29.h)) ⟨(v1_1,(TL.nil T_EMsg 0)),rfl,rfl,rfl⟩ ms
noncomputable def i_netDo (a0:D_ENet) (a1:D_EAct):Option (D_ENet×Bool) :=
 cond (decide (a1.1=2)) (Option.bind (i_within a1.2.2.1 0 (IntKind.wrap .i64 ((a0.2.length:Int) - 1))) (fun y2=>cond (!y2) (Option.bind (i_copyENet (a0.1,a0.2)) (fun y4=>some ((y4.1,y4.2),false))) (Option.bind (idx a0.2 a1.2.2.1) (fun y5=>Option.bind (i_isRep y5.2.2.1) (fun y6=>cond (!y6) (Option.bind (i_copyENet (a0.1,a0.2)) (fun y8=>some ((y8.1,y8.2),false))) (Option.bind (idx a0.1 y5.2.2.1) (fun y9=>cond (decide (a1.1=1)) (Option.bind (i_ENodeOffer (y9.1,y9.2.1,y9.2.2.1,y9.2.2.2) (a1.2.2.2.2.1,a1.2.2.2.2.2.1,a1.2.2.2.2.2.2.1,a1.2.2.2.2.2.2.2.1,a1.2.2.2.2.2.2.2.2.1,a1.2.2.2.2.2.2.2.2.2.1,a1.2.2.2.2.2.2.2.2.2.2.1,a1.2.2.2.2.2.2.2.2.2.2.2)) (fun y11=>Option.bind (i_copyENet (a0.1,a0.2)) (fun y12=>cond (!y11.2.2) (some ((y12.1,y12.2),false)) (Option.bind (idx y12.1 y5.2.2.1) (fun y14=>Option.bind (some (y12.1.set (y5.2.2.1.toNat) (y11.1.1,y11.1.2.1,y11.1.2.2.1,y11.1.2.2.2))) (fun y15=>whileP (fun s17:Int×(List D_EMsg)=>cond (decide (s17.1 < (y11.2.1.length:Int))) (Option.bind (idx y11.2.1 s17.1) (fun y19=>Option.bind (i_hasMsg s17.2 (y19.1,y19.2.1,y19.2.2.1,(y19.2.2.2.1.1,y19.2.2.2.1.2),y19.2.2.2.2.1,(y19.2.2.2.2.2.1.1,y19.2.2.2.2.2.1.2.1,y19.2.2.2.2.2.1.2.2.1,y19.2.2.2.2.2.1.2.2.2.1,y19.2.2.2.2.2.1.2.2.2.2.1,y19.2.2.2.2.2.1.2.2.2.2.2.1,y19.2.2.2.2.2.1.2.2.2.2.2.2.1,y19.2.2.2.2.2.1.2.2.2.2.2.2.2),y19.2.2.2.2.2.2.1,y19.2.2.2.2.2.2.2.1,y19.2.2.2.2.2.2.2.2.1,y19.2.2.2.2.2.2.2.2.2.1,y19.2.2.2.2.2.2.2.2.2.2)) (fun y20=>cond (!y20) (Option.bind (appP s17.2 [(y19.1,y19.2.1,y19.2.2.1,(y19.2.2.2.1.1,y19.2.2.2.1.2),y19.2.2.2.2.1,(y19.2.2.2.2.2.1.1,y19.2.2.2.2.2.1.2.1,y19.2.2.2.2.2.1.2.2.1,y19.2.2.2.2.2.1.2.2.2.1,y19.2.2.2.2.2.1.2.2.2.2.1,y19.2.2.2.2.2.1.2.2.2.2.2.1,y19.2.2.2.2.2.1.2.2.2.2.2.2.1,y19.2.2.2.2.2.1.2.2.2.2.2.2.2),y19.2.2.2.2.2.2.1,y19.2.2.2.2.2.2.2.1,y19.2.2.2.2.2.2.2.2.1,y19.2.2.2.2.2.2.2.2.2.1,y19.2.2.2.2.2.2.2.2.2.2)]) (fun y23=>some (.inl ((IntKind.wrap .i64 (s17.1+1),y23))))) (some (.inl ((IntKind.wrap .i64 (s17.1+1),s17.2))))))) (Option.map .inr (cond (decide (160 < (s17.2.length:Int))) (Option.bind (i_copyENet (a0.1,a0.2)) (fun y26=>some ((y26.1,y26.2),false))) (some ((y15,s17.2),true))))) (0,y12.2))))))) (cond (decide (a1.1=2)) (Option.bind (idx a0.2 a1.2.2.1) (fun y28=>Option.bind (i_ENodeGet (y9.1,y9.2.1,y9.2.2.1,y9.2.2.2) (y28.1,y28.2.1,y28.2.2.1,(y28.2.2.2.1.1,y28.2.2.2.1.2),y28.2.2.2.2.1,(y28.2.2.2.2.2.1.1,y28.2.2.2.2.2.1.2.1,y28.2.2.2.2.2.1.2.2.1,y28.2.2.2.2.2.1.2.2.2.1,y28.2.2.2.2.2.1.2.2.2.2.1,y28.2.2.2.2.2.1.2.2.2.2.2.1,y28.2.2.2.2.2.1.2.2.2.2.2.2.1,y28.2.2.2.2.2.1.2.2.2.2.2.2.2),y28.2.2.2.2.2.2.1,y28.2.2.2.2.2.2.2.1,y28.2.2.2.2.2.2.2.2.1,y28.2.2.2.2.2.2.2.2.2.1,y28.2.2.2.2.2.2.2.2.2.2)) (fun y29=>Option.bind (i_copyENet (a0.1,a0.2)) (fun y30=>cond (!y29.2.2) (some ((y30.1,y30.2),false)) (Option.bind (idx y30.1 y5.2.2.1) (fun y32=>Option.bind (some (y30.1.set (y5.2.2.1.toNat) (y29.1.1,y29.1.2.1,y29.1.2.2.1,y29.1.2.2.2))) (fun y33=>whileP (fun s35:Int×(List D_EMsg)=>cond (decide (s35.1 < (y29.2.1.length:Int))) (Option.bind (idx y29.2.1 s35.1) (fun y37=>Option.bind (i_hasMsg s35.2 (y37.1,y37.2.1,y37.2.2.1,(y37.2.2.2.1.1,y37.2.2.2.1.2),y37.2.2.2.2.1,(y37.2.2.2.2.2.1.1,y37.2.2.2.2.2.1.2.1,y37.2.2.2.2.2.1.2.2.1,y37.2.2.2.2.2.1.2.2.2.1,y37.2.2.2.2.2.1.2.2.2.2.1,y37.2.2.2.2.2.1.2.2.2.2.2.1,y37.2.2.2.2.2.1.2.2.2.2.2.2.1,y37.2.2.2.2.2.1.2.2.2.2.2.2.2),y37.2.2.2.2.2.2.1,y37.2.2.2.2.2.2.2.1,y37.2.2.2.2.2.2.2.2.1,y37.2.2.2.2.2.2.2.2.2.1,y37.2.2.2.2.2.2.2.2.2.2)) (fun y38=>cond (!y38) (Option.bind (appP s35.2 [(y37.1,y37.2.1,y37.2.2.1,(y37.2.2.2.1.1,y37.2.2.2.1.2),y37.2.2.2.2.1,(y37.2.2.2.2.2.1.1,y37.2.2.2.2.2.1.2.1,y37.2.2.2.2.2.1.2.2.1,y37.2.2.2.2.2.1.2.2.2.1,y37.2.2.2.2.2.1.2.2.2.2.1,y37.2.2.2.2.2.1.2.2.2.2.2.1,y37.2.2.2.2.2.1.2.2.2.2.2.2.1,y37.2.2.2.2.2.1.2.2.2.2.2.2.2),y37.2.2.2.2.2.2.1,y37.2.2.2.2.2.2.2.1,y37.2.2.2.2.2.2.2.2.1,y37.2.2.2.2.2.2.2.2.2.1,y37.2.2.2.2.2.2.2.2.2.2)]) (fun y41=>some (.inl ((IntKind.wrap .i64 (s35.1+1),y41))))) (some (.inl ((IntKind.wrap .i64 (s35.1+1),s35.2))))))) (Option.map .inr (cond (decide (160 < (s35.2.length:Int))) (Option.bind (i_copyENet (a0.1,a0.2)) (fun y44=>some ((y44.1,y44.2),false))) (some ((y33,s35.2),true))))) (0,y30.2)))))))) (cond (decide (a1.1=3)) (Option.bind (i_ENodeSlow (y9.1,y9.2.1,y9.2.2.1,y9.2.2.2) (a1.2.2.2.1.1,a1.2.2.2.1.2)) (fun y46=>Option.bind (i_copyENet (a0.1,a0.2)) (fun y47=>cond (!y46.2.2) (some ((y47.1,y47.2),false)) (Option.bind (idx y47.1 y5.2.2.1) (fun y49=>Option.bind (some (y47.1.set (y5.2.2.1.toNat) (y46.1.1,y46.1.2.1,y46.1.2.2.1,y46.1.2.2.2))) (fun y50=>whileP (fun s52:Int×(List D_EMsg)=>cond (decide (s52.1 < (y46.2.1.length:Int))) (Option.bind (idx y46.2.1 s52.1) (fun y54=>Option.bind (i_hasMsg s52.2 (y54.1,y54.2.1,y54.2.2.1,(y54.2.2.2.1.1,y54.2.2.2.1.2),y54.2.2.2.2.1,(y54.2.2.2.2.2.1.1,y54.2.2.2.2.2.1.2.1,y54.2.2.2.2.2.1.2.2.1,y54.2.2.2.2.2.1.2.2.2.1,y54.2.2.2.2.2.1.2.2.2.2.1,y54.2.2.2.2.2.1.2.2.2.2.2.1,y54.2.2.2.2.2.1.2.2.2.2.2.2.1,y54.2.2.2.2.2.1.2.2.2.2.2.2.2),y54.2.2.2.2.2.2.1,y54.2.2.2.2.2.2.2.1,y54.2.2.2.2.2.2.2.2.1,y54.2.2.2.2.2.2.2.2.2.1,y54.2.2.2.2.2.2.2.2.2.2)) (fun y55=>cond (!y55) (Option.bind (appP s52.2 [(y54.1,y54.2.1,y54.2.2.1,(y54.2.2.2.1.1,y54.2.2.2.1.2),y54.2.2.2.2.1,(y54.2.2.2.2.2.1.1,y54.2.2.2.2.2.1.2.1,y54.2.2.2.2.2.1.2.2.1,y54.2.2.2.2.2.1.2.2.2.1,y54.2.2.2.2.2.1.2.2.2.2.1,y54.2.2.2.2.2.1.2.2.2.2.2.1,y54.2.2.2.2.2.1.2.2.2.2.2.2.1,y54.2.2.2.2.2.1.2.2.2.2.2.2.2),y54.2.2.2.2.2.2.1,y54.2.2.2.2.2.2.2.1,y54.2.2.2.2.2.2.2.2.1,y54.2.2.2.2.2.2.2.2.2.1,y54.2.2.2.2.2.2.2.2.2.2)]) (fun y58=>some (.inl ((IntKind.wrap .i64 (s52.1+1),y58))))) (some (.inl ((IntKind.wrap .i64 (s52.1+1),s52.2))))))) (Option.map .inr (cond (decide (160 < (s52.2.length:Int))) (Option.bind (i_copyENet (a0.1,a0.2)) (fun y61=>some ((y61.1,y61.2),false))) (some ((y50,s52.2),true))))) (0,y47.2))))))) (cond (decide (a1.1=4)) (Option.bind (i_ENodeRecover (y9.1,y9.2.1,y9.2.2.1,y9.2.2.2) (a1.2.2.2.1.1,a1.2.2.2.1.2)) (fun y63=>Option.bind (i_copyENet (a0.1,a0.2)) (fun y64=>cond (!y63.2.2) (some ((y64.1,y64.2),false)) (Option.bind (idx y64.1 y5.2.2.1) (fun y66=>Option.bind (some (y64.1.set (y5.2.2.1.toNat) (y63.1.1,y63.1.2.1,y63.1.2.2.1,y63.1.2.2.2))) (fun y67=>whileP (fun s69:Int×(List D_EMsg)=>cond (decide (s69.1 < (y63.2.1.length:Int))) (Option.bind (idx y63.2.1 s69.1) (fun y71=>Option.bind (i_hasMsg s69.2 (y71.1,y71.2.1,y71.2.2.1,(y71.2.2.2.1.1,y71.2.2.2.1.2),y71.2.2.2.2.1,(y71.2.2.2.2.2.1.1,y71.2.2.2.2.2.1.2.1,y71.2.2.2.2.2.1.2.2.1,y71.2.2.2.2.2.1.2.2.2.1,y71.2.2.2.2.2.1.2.2.2.2.1,y71.2.2.2.2.2.1.2.2.2.2.2.1,y71.2.2.2.2.2.1.2.2.2.2.2.2.1,y71.2.2.2.2.2.1.2.2.2.2.2.2.2),y71.2.2.2.2.2.2.1,y71.2.2.2.2.2.2.2.1,y71.2.2.2.2.2.2.2.2.1,y71.2.2.2.2.2.2.2.2.2.1,y71.2.2.2.2.2.2.2.2.2.2)) (fun y72=>cond (!y72) (Option.bind (appP s69.2 [(y71.1,y71.2.1,y71.2.2.1,(y71.2.2.2.1.1,y71.2.2.2.1.2),y71.2.2.2.2.1,(y71.2.2.2.2.2.1.1,y71.2.2.2.2.2.1.2.1,y71.2.2.2.2.2.1.2.2.1,y71.2.2.2.2.2.1.2.2.2.1,y71.2.2.2.2.2.1.2.2.2.2.1,y71.2.2.2.2.2.1.2.2.2.2.2.1,y71.2.2.2.2.2.1.2.2.2.2.2.2.1,y71.2.2.2.2.2.1.2.2.2.2.2.2.2),y71.2.2.2.2.2.2.1,y71.2.2.2.2.2.2.2.1,y71.2.2.2.2.2.2.2.2.1,y71.2.2.2.2.2.2.2.2.2.1,y71.2.2.2.2.2.2.2.2.2.2)]) (fun y75=>some (.inl ((IntKind.wrap .i64 (s69.1+1),y75))))) (some (.inl ((IntKind.wrap .i64 (s69.1+1),s69.2))))))) (Option.map .inr (cond (decide (160 < (s69.2.length:Int))) (Option.bind (i_copyENet (a0.1,a0.2)) (fun y78=>some ((y78.1,y78.2),false))) (some ((y67,s69.2),true))))) (0,y64.2))))))) (cond (decide (a1.1=5)) (Option.bind (i_ENodeFall (y9.1,y9.2.1,y9.2.2.1,y9.2.2.2)) (fun y80=>Option.bind (i_copyENet (a0.1,a0.2)) (fun y81=>cond (!y80.2) (some ((y81.1,y81.2),false)) (Option.bind (idx y81.1 y5.2.2.1) (fun y83=>Option.bind (some (y81.1.set (y5.2.2.1.toNat) (y80.1.1,y80.1.2.1,y80.1.2.2.1,y80.1.2.2.2))) (fun y84=>whileP (fun s86:Int×(List D_EMsg)=>cond (decide (s86.1 < (([]:List D_EMsg).length:Int))) (Option.bind (idx ([]:List D_EMsg) s86.1) (fun y88=>Option.bind (i_hasMsg s86.2 (y88.1,y88.2.1,y88.2.2.1,(y88.2.2.2.1.1,y88.2.2.2.1.2),y88.2.2.2.2.1,(y88.2.2.2.2.2.1.1,y88.2.2.2.2.2.1.2.1,y88.2.2.2.2.2.1.2.2.1,y88.2.2.2.2.2.1.2.2.2.1,y88.2.2.2.2.2.1.2.2.2.2.1,y88.2.2.2.2.2.1.2.2.2.2.2.1,y88.2.2.2.2.2.1.2.2.2.2.2.2.1,y88.2.2.2.2.2.1.2.2.2.2.2.2.2),y88.2.2.2.2.2.2.1,y88.2.2.2.2.2.2.2.1,y88.2.2.2.2.2.2.2.2.1,y88.2.2.2.2.2.2.2.2.2.1,y88.2.2.2.2.2.2.2.2.2.2)) (fun y89=>cond (!y89) (Option.bind (appP s86.2 [(y88.1,y88.2.1,y88.2.2.1,(y88.2.2.2.1.1,y88.2.2.2.1.2),y88.2.2.2.2.1,(y88.2.2.2.2.2.1.1,y88.2.2.2.2.2.1.2.1,y88.2.2.2.2.2.1.2.2.1,y88.2.2.2.2.2.1.2.2.2.1,y88.2.2.2.2.2.1.2.2.2.2.1,y88.2.2.2.2.2.1.2.2.2.2.2.1,y88.2.2.2.2.2.1.2.2.2.2.2.2.1,y88.2.2.2.2.2.1.2.2.2.2.2.2.2),y88.2.2.2.2.2.2.1,y88.2.2.2.2.2.2.2.1,y88.2.2.2.2.2.2.2.2.1,y88.2.2.2.2.2.2.2.2.2.1,y88.2.2.2.2.2.2.2.2.2.2)]) (fun y92=>some (.inl ((IntKind.wrap .i64 (s86.1+1),y92))))) (some (.inl ((IntKind.wrap .i64 (s86.1+1),s86.2))))))) (Option.map .inr (cond (decide (160 < (s86.2.length:Int))) (Option.bind (i_copyENet (a0.1,a0.2)) (fun y95=>some ((y95.1,y95.2),false))) (some ((y84,s86.2),true))))) (0,y81.2))))))) (Option.bind (i_copyENet (a0.1,a0.2)) (fun y96=>some ((y96.1,y96.2),false)))))))))))))) (Option.bind (i_isRep a1.2.1) (fun y98=>cond (!y98) (Option.bind (i_copyENet (a0.1,a0.2)) (fun y100=>some ((y100.1,y100.2),false))) (Option.bind (idx a0.1 a1.2.1) (fun y101=>cond (decide (a1.1=1)) (Option.bind (i_ENodeOffer (y101.1,y101.2.1,y101.2.2.1,y101.2.2.2) (a1.2.2.2.2.1,a1.2.2.2.2.2.1,a1.2.2.2.2.2.2.1,a1.2.2.2.2.2.2.2.1,a1.2.2.2.2.2.2.2.2.1,a1.2.2.2.2.2.2.2.2.2.1,a1.2.2.2.2.2.2.2.2.2.2.1,a1.2.2.2.2.2.2.2.2.2.2.2)) (fun y103=>Option.bind (i_copyENet (a0.1,a0.2)) (fun y104=>cond (!y103.2.2) (some ((y104.1,y104.2),false)) (Option.bind (idx y104.1 a1.2.1) (fun y106=>Option.bind (some (y104.1.set (a1.2.1.toNat) (y103.1.1,y103.1.2.1,y103.1.2.2.1,y103.1.2.2.2))) (fun y107=>whileP (fun s109:Int×(List D_EMsg)=>cond (decide (s109.1 < (y103.2.1.length:Int))) (Option.bind (idx y103.2.1 s109.1) (fun y111=>Option.bind (i_hasMsg s109.2 (y111.1,y111.2.1,y111.2.2.1,(y111.2.2.2.1.1,y111.2.2.2.1.2),y111.2.2.2.2.1,(y111.2.2.2.2.2.1.1,y111.2.2.2.2.2.1.2.1,y111.2.2.2.2.2.1.2.2.1,y111.2.2.2.2.2.1.2.2.2.1,y111.2.2.2.2.2.1.2.2.2.2.1,y111.2.2.2.2.2.1.2.2.2.2.2.1,y111.2.2.2.2.2.1.2.2.2.2.2.2.1,y111.2.2.2.2.2.1.2.2.2.2.2.2.2),y111.2.2.2.2.2.2.1,y111.2.2.2.2.2.2.2.1,y111.2.2.2.2.2.2.2.2.1,y111.2.2.2.2.2.2.2.2.2.1,y111.2.2.2.2.2.2.2.2.2.2)) (fun y112=>cond (!y112) (Option.bind (appP s109.2 [(y111.1,y111.2.1,y111.2.2.1,(y111.2.2.2.1.1,y111.2.2.2.1.2),y111.2.2.2.2.1,(y111.2.2.2.2.2.1.1,y111.2.2.2.2.2.1.2.1,y111.2.2.2.2.2.1.2.2.1,y111.2.2.2.2.2.1.2.2.2.1,y111.2.2.2.2.2.1.2.2.2.2.1,y111.2.2.2.2.2.1.2.2.2.2.2.1,y111.2.2.2.2.2.1.2.2.2.2.2.2.1,y111.2.2.2.2.2.1.2.2.2.2.2.2.2),y111.2.2.2.2.2.2.1,y111.2.2.2.2.2.2.2.1,y111.2.2.2.2.2.2.2.2.1,y111.2.2.2.2.2.2.2.2.2.1,y111.2.2.2.2.2.2.2.2.2.2)]) (fun y115=>some (.inl ((IntKind.wrap .i64 (s109.1+1),y115))))) (some (.inl ((IntKind.wrap .i64 (s109.1+1),s109.2))))))) (Option.map .inr (cond (decide (160 < (s109.2.length:Int))) (Option.bind (i_copyENet (a0.1,a0.2)) (fun y118=>some ((y118.1,y118.2),false))) (some ((y107,s109.2),true))))) (0,y104.2))))))) (cond (decide (a1.1=2)) (Option.bind (idx a0.2 a1.2.2.1) (fun y120=>Option.bind (i_ENodeGet (y101.1,y101.2.1,y101.2.2.1,y101.2.2.2) (y120.1,y120.2.1,y120.2.2.1,(y120.2.2.2.1.1,y120.2.2.2.1.2),y120.2.2.2.2.1,(y120.2.2.2.2.2.1.1,y120.2.2.2.2.2.1.2.1,y120.2.2.2.2.2.1.2.2.1,y120.2.2.2.2.2.1.2.2.2.1,y120.2.2.2.2.2.1.2.2.2.2.1,y120.2.2.2.2.2.1.2.2.2.2.2.1,y120.2.2.2.2.2.1.2.2.2.2.2.2.1,y120.2.2.2.2.2.1.2.2.2.2.2.2.2),y120.2.2.2.2.2.2.1,y120.2.2.2.2.2.2.2.1,y120.2.2.2.2.2.2.2.2.1,y120.2.2.2.2.2.2.2.2.2.1,y120.2.2.2.2.2.2.2.2.2.2)) (fun y121=>Option.bind (i_copyENet (a0.1,a0.2)) (fun y122=>cond (!y121.2.2) (some ((y122.1,y122.2),false)) (Option.bind (idx y122.1 a1.2.1) (fun y124=>Option.bind (some (y122.1.set (a1.2.1.toNat) (y121.1.1,y121.1.2.1,y121.1.2.2.1,y121.1.2.2.2))) (fun y125=>whileP (fun s127:Int×(List D_EMsg)=>cond (decide (s127.1 < (y121.2.1.length:Int))) (Option.bind (idx y121.2.1 s127.1) (fun y129=>Option.bind (i_hasMsg s127.2 (y129.1,y129.2.1,y129.2.2.1,(y129.2.2.2.1.1,y129.2.2.2.1.2),y129.2.2.2.2.1,(y129.2.2.2.2.2.1.1,y129.2.2.2.2.2.1.2.1,y129.2.2.2.2.2.1.2.2.1,y129.2.2.2.2.2.1.2.2.2.1,y129.2.2.2.2.2.1.2.2.2.2.1,y129.2.2.2.2.2.1.2.2.2.2.2.1,y129.2.2.2.2.2.1.2.2.2.2.2.2.1,y129.2.2.2.2.2.1.2.2.2.2.2.2.2),y129.2.2.2.2.2.2.1,y129.2.2.2.2.2.2.2.1,y129.2.2.2.2.2.2.2.2.1,y129.2.2.2.2.2.2.2.2.2.1,y129.2.2.2.2.2.2.2.2.2.2)) (fun y130=>cond (!y130) (Option.bind (appP s127.2 [(y129.1,y129.2.1,y129.2.2.1,(y129.2.2.2.1.1,y129.2.2.2.1.2),y129.2.2.2.2.1,(y129.2.2.2.2.2.1.1,y129.2.2.2.2.2.1.2.1,y129.2.2.2.2.2.1.2.2.1,y129.2.2.2.2.2.1.2.2.2.1,y129.2.2.2.2.2.1.2.2.2.2.1,y129.2.2.2.2.2.1.2.2.2.2.2.1,y129.2.2.2.2.2.1.2.2.2.2.2.2.1,y129.2.2.2.2.2.1.2.2.2.2.2.2.2),y129.2.2.2.2.2.2.1,y129.2.2.2.2.2.2.2.1,y129.2.2.2.2.2.2.2.2.1,y129.2.2.2.2.2.2.2.2.2.1,y129.2.2.2.2.2.2.2.2.2.2)]) (fun y133=>some (.inl ((IntKind.wrap .i64 (s127.1+1),y133))))) (some (.inl ((IntKind.wrap .i64 (s127.1+1),s127.2))))))) (Option.map .inr (cond (decide (160 < (s127.2.length:Int))) (Option.bind (i_copyENet (a0.1,a0.2)) (fun y136=>some ((y136.1,y136.2),false))) (some ((y125,s127.2),true))))) (0,y122.2)))))))) (cond (decide (a1.1=3)) (Option.bind (i_ENodeSlow (y101.1,y101.2.1,y101.2.2.1,y101.2.2.2) (a1.2.2.2.1.1,a1.2.2.2.1.2)) (fun y138=>Option.bind (i_copyENet (a0.1,a0.2)) (fun y139=>cond (!y138.2.2) (some ((y139.1,y139.2),false)) (Option.bind (idx y139.1 a1.2.1) (fun y141=>Option.bind (some (y139.1.set (a1.2.1.toNat) (y138.1.1,y138.1.2.1,y138.1.2.2.1,y138.1.2.2.2))) (fun y142=>whileP (fun s144:Int×(List D_EMsg)=>cond (decide (s144.1 < (y138.2.1.length:Int))) (Option.bind (idx y138.2.1 s144.1) (fun y146=>Option.bind (i_hasMsg s144.2 (y146.1,y146.2.1,y146.2.2.1,(y146.2.2.2.1.1,y146.2.2.2.1.2),y146.2.2.2.2.1,(y146.2.2.2.2.2.1.1,y146.2.2.2.2.2.1.2.1,y146.2.2.2.2.2.1.2.2.1,y146.2.2.2.2.2.1.2.2.2.1,y146.2.2.2.2.2.1.2.2.2.2.1,y146.2.2.2.2.2.1.2.2.2.2.2.1,y146.2.2.2.2.2.1.2.2.2.2.2.2.1,y146.2.2.2.2.2.1.2.2.2.2.2.2.2),y146.2.2.2.2.2.2.1,y146.2.2.2.2.2.2.2.1,y146.2.2.2.2.2.2.2.2.1,y146.2.2.2.2.2.2.2.2.2.1,y146.2.2.2.2.2.2.2.2.2.2)) (fun y147=>cond (!y147) (Option.bind (appP s144.2 [(y146.1,y146.2.1,y146.2.2.1,(y146.2.2.2.1.1,y146.2.2.2.1.2),y146.2.2.2.2.1,(y146.2.2.2.2.2.1.1,y146.2.2.2.2.2.1.2.1,y146.2.2.2.2.2.1.2.2.1,y146.2.2.2.2.2.1.2.2.2.1,y146.2.2.2.2.2.1.2.2.2.2.1,y146.2.2.2.2.2.1.2.2.2.2.2.1,y146.2.2.2.2.2.1.2.2.2.2.2.2.1,y146.2.2.2.2.2.1.2.2.2.2.2.2.2),y146.2.2.2.2.2.2.1,y146.2.2.2.2.2.2.2.1,y146.2.2.2.2.2.2.2.2.1,y146.2.2.2.2.2.2.2.2.2.1,y146.2.2.2.2.2.2.2.2.2.2)]) (fun y150=>some (.inl ((IntKind.wrap .i64 (s144.1+1),y150))))) (some (.inl ((IntKind.wrap .i64 (s144.1+1),s144.2))))))) (Option.map .inr (cond (decide (160 < (s144.2.length:Int))) (Option.bind (i_copyENet (a0.1,a0.2)) (fun y153=>some ((y153.1,y153.2),false))) (some ((y142,s144.2),true))))) (0,y139.2))))))) (cond (decide (a1.1=4)) (Option.bind (i_ENodeRecover (y101.1,y101.2.1,y101.2.2.1,y101.2.2.2) (a1.2.2.2.1.1,a1.2.2.2.1.2)) (fun y155=>Option.bind (i_copyENet (a0.1,a0.2)) (fun y156=>cond (!y155.2.2) (some ((y156.1,y156.2),false)) (Option.bind (idx y156.1 a1.2.1) (fun y158=>Option.bind (some (y156.1.set (a1.2.1.toNat) (y155.1.1,y155.1.2.1,y155.1.2.2.1,y155.1.2.2.2))) (fun y159=>whileP (fun s161:Int×(List D_EMsg)=>cond (decide (s161.1 < (y155.2.1.length:Int))) (Option.bind (idx y155.2.1 s161.1) (fun y163=>Option.bind (i_hasMsg s161.2 (y163.1,y163.2.1,y163.2.2.1,(y163.2.2.2.1.1,y163.2.2.2.1.2),y163.2.2.2.2.1,(y163.2.2.2.2.2.1.1,y163.2.2.2.2.2.1.2.1,y163.2.2.2.2.2.1.2.2.1,y163.2.2.2.2.2.1.2.2.2.1,y163.2.2.2.2.2.1.2.2.2.2.1,y163.2.2.2.2.2.1.2.2.2.2.2.1,y163.2.2.2.2.2.1.2.2.2.2.2.2.1,y163.2.2.2.2.2.1.2.2.2.2.2.2.2),y163.2.2.2.2.2.2.1,y163.2.2.2.2.2.2.2.1,y163.2.2.2.2.2.2.2.2.1,y163.2.2.2.2.2.2.2.2.2.1,y163.2.2.2.2.2.2.2.2.2.2)) (fun y164=>cond (!y164) (Option.bind (appP s161.2 [(y163.1,y163.2.1,y163.2.2.1,(y163.2.2.2.1.1,y163.2.2.2.1.2),y163.2.2.2.2.1,(y163.2.2.2.2.2.1.1,y163.2.2.2.2.2.1.2.1,y163.2.2.2.2.2.1.2.2.1,y163.2.2.2.2.2.1.2.2.2.1,y163.2.2.2.2.2.1.2.2.2.2.1,y163.2.2.2.2.2.1.2.2.2.2.2.1,y163.2.2.2.2.2.1.2.2.2.2.2.2.1,y163.2.2.2.2.2.1.2.2.2.2.2.2.2),y163.2.2.2.2.2.2.1,y163.2.2.2.2.2.2.2.1,y163.2.2.2.2.2.2.2.2.1,y163.2.2.2.2.2.2.2.2.2.1,y163.2.2.2.2.2.2.2.2.2.2)]) (fun y167=>some (.inl ((IntKind.wrap .i64 (s161.1+1),y167))))) (some (.inl ((IntKind.wrap .i64 (s161.1+1),s161.2))))))) (Option.map .inr (cond (decide (160 < (s161.2.length:Int))) (Option.bind (i_copyENet (a0.1,a0.2)) (fun y170=>some ((y170.1,y170.2),false))) (some ((y159,s161.2),true))))) (0,y156.2))))))) (cond (decide (a1.1=5)) (Option.bind (i_ENodeFall (y101.1,y101.2.1,y101.2.2.1,y101.2.2.2)) (fun y172=>Option.bind (i_copyENet (a0.1,a0.2)) (fun y173=>cond (!y172.2) (some ((y173.1,y173.2),false)) (Option.bind (idx y173.1 a1.2.1) (fun y175=>Option.bind (some (y173.1.set (a1.2.1.toNat) (y172.1.1,y172.1.2.1,y172.1.2.2.1,y172.1.2.2.2))) (fun y176=>whileP (fun s178:Int×(List D_EMsg)=>cond (decide (s178.1 < (([]:List D_EMsg).length:Int))) (Option.bind (idx ([]:List D_EMsg) s178.1) (fun y180=>Option.bind (i_hasMsg s178.2 (y180.1,y180.2.1,y180.2.2.1,(y180.2.2.2.1.1,y180.2.2.2.1.2),y180.2.2.2.2.1,(y180.2.2.2.2.2.1.1,y180.2.2.2.2.2.1.2.1,y180.2.2.2.2.2.1.2.2.1,y180.2.2.2.2.2.1.2.2.2.1,y180.2.2.2.2.2.1.2.2.2.2.1,y180.2.2.2.2.2.1.2.2.2.2.2.1,y180.2.2.2.2.2.1.2.2.2.2.2.2.1,y180.2.2.2.2.2.1.2.2.2.2.2.2.2),y180.2.2.2.2.2.2.1,y180.2.2.2.2.2.2.2.1,y180.2.2.2.2.2.2.2.2.1,y180.2.2.2.2.2.2.2.2.2.1,y180.2.2.2.2.2.2.2.2.2.2)) (fun y181=>cond (!y181) (Option.bind (appP s178.2 [(y180.1,y180.2.1,y180.2.2.1,(y180.2.2.2.1.1,y180.2.2.2.1.2),y180.2.2.2.2.1,(y180.2.2.2.2.2.1.1,y180.2.2.2.2.2.1.2.1,y180.2.2.2.2.2.1.2.2.1,y180.2.2.2.2.2.1.2.2.2.1,y180.2.2.2.2.2.1.2.2.2.2.1,y180.2.2.2.2.2.1.2.2.2.2.2.1,y180.2.2.2.2.2.1.2.2.2.2.2.2.1,y180.2.2.2.2.2.1.2.2.2.2.2.2.2),y180.2.2.2.2.2.2.1,y180.2.2.2.2.2.2.2.1,y180.2.2.2.2.2.2.2.2.1,y180.2.2.2.2.2.2.2.2.2.1,y180.2.2.2.2.2.2.2.2.2.2)]) (fun y184=>some (.inl ((IntKind.wrap .i64 (s178.1+1),y184))))) (some (.inl ((IntKind.wrap .i64 (s178.1+1),s178.2))))))) (Option.map .inr (cond (decide (160 < (s178.2.length:Int))) (Option.bind (i_copyENet (a0.1,a0.2)) (fun y187=>some ((y187.1,y187.2),false))) (some ((y176,s178.2),true))))) (0,y173.2))))))) (Option.bind (i_copyENet (a0.1,a0.2)) (fun y188=>some ((y188.1,y188.2),false)))))))))))
theorem i_netDo_walk (w:World) (a0:T_ENet) (a1:T_EAct) (h0:GT.rd w [] a0) (h1:GT.rd w [] a1) (r:D_ENet×Bool) (hp:i_netDo (GT.dat a0) (GT.dat a1)=some r):Spec Tryz.prog 36 [.agg (GT.cells a0).toArray,.agg (GT.cells a1).toArray].toArray w [] (fun v M=>∃ (x0:T_ENet) (x1:Bool),v=.tuple #[.agg (GT.cells x0).toArray,.bool x1]∧(GT.dat x0,GT.dat x1)=r∧M=[treeH x0]):=by
 obtain ⟨a0_1,a0_2⟩:=a0
 obtain ⟨a1_1,a1_2,a1_3,⟨a1_4,a1_5⟩,⟨a1_6,a1_7,a1_8,a1_9,a1_10,a1_11,a1_12,a1_13⟩⟩:=a1
 change Spec _ _ ([Value.agg #[(TL.hdr a0_1),(TL.hdr a0_2)],Value.agg #[.int .i64 a1_1,.int .i64 a1_2,.int .i64 a1_3,.int .i64 a1_4,.int .i64 a1_5,.int .i64 a1_6,.int .i64 a1_7,.int .i64 a1_8,.string a1_9,.string a1_10,.string a1_11,.int .i64 a1_12,(TL.hdr a1_13)]]:List Value).toArray w [] _
 refine Spec.intro Tryz.func36 rfl Tryz.ntmps36 rfl ?_
 unfold i_netDo at hp
 replace hp:=dd hp
 refine s2 ?_
 refine bx fun bk2=>?_
 refine bx fun bk3=>?_
 refine al fun bk4=>?_
 refine s15 ?_
 refine kp [2,3,4,6,17] ?_
 refine W_cond rfl (fun q1=>?_) (fun q1=>?_)
 ·replace hp:=cond_t q1 hp
  refine s9 ?_
  replace hp:=ba hp;obtain ⟨y2,hy2,hp⟩:=hp
  refine L_callX rfl fn66.h rfl (by exact fun w hw=>i_within_walk w a1_3 0 (IntKind.wrap .i64 (((GT.dat a0_2).length:Int) - 1))  _ hy2) ?_
  refine s2 ?_
  refine kp [2,3,4,25] ?_
  refine W_cond rfl (fun q3=>?_) (fun q3=>?_)
  ·replace hp:=cond_t q3 hp
   refine s3 ?_
   replace hp:=ba hp;obtain ⟨y4,hy4,hp⟩:=hp
   refine L_callR rfl fn67.h rfl (by exact fun w hw=>i_copyENet_walk w (a0_1,a0_2) (RdT.now (RdT.pair (RdT.old h0.1) (RdT.old h0.2)) hw) _ hy4) ?_
   rintro _ _ ⟨⟨y4x0_1,y4x0_2⟩,rfl,rfl,rfl⟩
   refine sc ?_
   replace hp:=dd hp
   refine xL ((y4x0_1,y4x0_2):T_ENet) ?_
   refine s3 ?_
   obtain rfl:=sj hp
   refine jW ((y4x0_1,y4x0_2):T_ENet) ?_
   refine s1 ?_
   refine res2 rfl (ResOK.cell rfl mm (by exact agg29.h)) (ResOK.tmp rfl) ⟨(y4x0_1,y4x0_2),false,rfl,rfl,rfl⟩ ms
  ·replace hp:=cond_f q3 hp
   refine s6 ?_
   replace hp:=idx_bind hp;obtain ⟨⟨u5_1,u5_2,u5_3,⟨u5_4,u5_5⟩,u5_6,⟨u5_7,u5_8,u5_9,u5_10,u5_11,u5_12,u5_13,u5_14⟩,u5_15,u5_16,u5_17,u5_18,u5_19⟩,hy5,hp⟩:=hp
   refine L_idxA (X:=a0_2) rfl rfl rfl el27.h (RdT.old h0.2) hy5 ?_
   refine s1 ?_
   refine L_load rfl rfl (RdT.at (RdT.old h0.2) (hy5).2) one3.h rfl ?_
   refine s6 ?_
   replace hp:=ba hp;obtain ⟨y6,hy6,hp⟩:=hp
   refine L_callX rfl fn62.h rfl (by exact fun w hw=>i_isRep_walk w u5_3  _ hy6) ?_
   refine s2 ?_
   refine kp [2,3,4,6,37] ?_
   refine W_cond rfl (fun q7=>?_) (fun q7=>?_)
   ·replace hp:=cond_t q7 hp
    refine s3 ?_
    replace hp:=ba hp;obtain ⟨y8,hy8,hp⟩:=hp
    refine L_callR rfl fn67.h rfl (by exact fun w hw=>i_copyENet_walk w (a0_1,a0_2) (RdT.now (RdT.pair (RdT.old h0.1) (RdT.old h0.2)) hw) _ hy8) ?_
    rintro _ _ ⟨⟨y8x0_1,y8x0_2⟩,rfl,rfl,rfl⟩
    refine sc ?_
    replace hp:=dd hp
    refine xL ((y8x0_1,y8x0_2):T_ENet) ?_
    refine s3 ?_
    obtain rfl:=sj hp
    refine jW ((y8x0_1,y8x0_2):T_ENet) ?_
    refine s1 ?_
    refine res2 rfl (ResOK.cell rfl mm (by exact agg29.h)) (ResOK.tmp rfl) ⟨(y8x0_1,y8x0_2),false,rfl,rfl,rfl⟩ ms
   ·replace hp:=cond_f q7 hp
    refine s6 ?_
    replace hp:=idx_bind hp;obtain ⟨⟨u9_1,u9_2,u9_3,u9_4⟩,hy9,hp⟩:=hp
    refine L_idxA (X:=a0_1) rfl rfl rfl el26.h (RdT.old h0.1) hy9 ?_
    refine L_loadW rfl rfl (RdT.at (RdT.old h0.1) (hy9).2) (by exact agg44.h) ?_
    refine al fun bk7=>?_
    refine s4 ?_
    refine L_assign (v:=(TL.hdr (TL.nil T_EMsg 0))) rfl rfl ?_
    refine s17 ?_
    refine kp [2,3,4,6,7,8,9,46,47] ?_
    refine W_cond rfl (fun q10=>?_) (fun q10=>?_)
    ·replace hp:=cond_t q10 hp
     refine s3 ?_
     refine L_loadW rfl rfl (RdC.seg (RdC.blk mm) 5 8 rfl) (by exact agg38.h) ?_
     replace hp:=ba hp;obtain ⟨y11,hy11,hp⟩:=hp
     refine L_callR rfl fn68.h rfl (by exact fun w hw=>i_ENodeOffer_walk w (u9_1,u9_2,u9_3,u9_4) (a1_6,a1_7,a1_8,a1_9,a1_10,a1_11,a1_12,a1_13) (RdT.now (RdT.pair RdT.int (RdT.pair RdT.int (RdT.pair (RdT.fst (RdT.snd (RdT.snd (RdT.of (RdT.old h0.1) (hy9).2)))) (RdT.snd (RdT.snd (RdT.snd (RdT.of (RdT.old h0.1) (hy9).2))))))) hw) (RdT.now (RdT.pair RdT.int (RdT.pair RdT.int (RdT.pair RdT.int (RdT.pair RdT.str (RdT.pair RdT.str (RdT.pair RdT.str (RdT.pair RdT.int (RdT.old h1.2.2.2.2.2.2.2.2.2.2.2)))))))) hw) _ hy11) ?_
     rintro _ _ ⟨⟨y11x0_1,y11x0_2,y11x0_3,y11x0_4⟩,y11x1,y11x2,rfl,rfl,rfl⟩
     refine sc ?_
     replace hp:=dd hp
     refine xL ((y11x0_1,y11x0_2,y11x0_3,y11x0_4):T_ENode) ?_
     refine s11 ?_
     replace hp:=ba hp;obtain ⟨y12,hy12,hp⟩:=hp
     refine L_callR rfl fn67.h rfl (by exact fun w hw=>i_copyENet_walk w (a0_1,a0_2) (RdT.now (RdT.pair (RdT.old h0.1) (RdT.old h0.2)) hw) _ hy12) ?_
     rintro _ _ ⟨⟨y12x0_1,y12x0_2⟩,rfl,rfl,rfl⟩
     refine sc ?_
     replace hp:=dd hp
     refine xL ((y12x0_1,y12x0_2):T_ENet) ?_
     refine al fun bk10=>?_
     refine s8 ?_
     refine kp [2,4,6,7,8,10,101] ?_
     refine W_cond rfl (fun q13=>?_) (fun q13=>?_)
     ·replace hp:=cond_t q13 hp
      refine s6 ?_
      obtain rfl:=sj hp
      refine jW ((y12x0_1,y12x0_2):T_ENet) ?_
      refine s1 ?_
      refine res2 rfl (ResOK.cell rfl mm (by exact agg29.h)) (ResOK.tmp rfl) ⟨(y12x0_1,y12x0_2),false,rfl,rfl,rfl⟩ ms
     ·replace hp:=cond_f q13 hp
      refine s7 ?_
      replace hp:=idx_bind hp;obtain ⟨⟨u14_1,u14_2,u14_3,u14_4⟩,hy14,hp⟩:=hp
      refine L_idxA (X:=y12x0_1) rfl rfl rfl el26.h (RdT.tree mm) hy14 ?_
      refine L_conv (M':=treeH (u14_1,u14_2,u14_3,u14_4)::holeH y12x0_1 (u5_3.toNat) (GT.cells (u14_1,u14_2,u14_3,u14_4))::_) (fun w h=>hole_open hy14.2 pk h) ?_
      refine xL ((u14_1,u14_2,u14_3,u14_4):T_ENode) ?_
      refine L_stH (X:=y12x0_1) (i:=u5_3.toNat) (sz:=4) (fo:=0) (n:=4) rfl rfl pk rfl (.inl agg44.h) rfl (allOne rfl) (Nat.le_of_ble_eq_true rfl) ?_
      refine jL ((y11x0_1,y11x0_2,y11x0_3,y11x0_4):T_ENode) ?_
      replace hp:=ba hp;obtain ⟨y15,hy15,hp⟩:=hp
      refine L_close (X:=y12x0_1) ((y11x0_1,y11x0_2,y11x0_3,y11x0_4):T_ENode) rfl pk pk hy15 (fun X16 hdX16 hhX16=>?_)
      subst hdX16
      try rw [← hhX16]
      try rw [← g_of_hdr hhX16]
      try rw [← o_of_hdr hhX16]
      refine s9 ?_
      refine W_conv (M':=rowH y11x1::elsT (y11x1.els.drop 0)::_) (fun w h=>els_start pk h) ?_
      refine W_while (σ:=Int×(TL T_EMsg)) GT.dat (fun ((v17_0,v17_1):Int×(TL T_EMsg))=>[(110,.int .i64 v17_0)]) (fun ((v17_0,v17_1):Int×(TL T_EMsg))=>[blk bk10 [(TL.hdr X16),(TL.hdr v17_1)] 29,treeH v17_1,elsT (y11x1.els.drop (v17_0.toNat))]) [(2,_),(4,_),(10,_),(108,_),(109,_)] [blk bk2 _ _,blk bk4 _ _,treeH X16,rowH y11x1] (0,y12x0_2) hp sb ms ?_
      clear hp
      rintro ⟨v17_0,v17_1⟩ x17 hp hx17
      replace hp:=dd hp
      refine kq [2,4,10,108,109,110] ?_
      refine s5 ?_
      refine kp [2,4,10,108,109,110,111] ?_
      refine W_cond rfl (fun q18=>?_) (fun q18=>?_)
      ·replace hp:=cond_t q18 hp
       refine s5 ?_
       replace hp:=idx_bind hp;obtain ⟨⟨u19_1,u19_2,u19_3,⟨u19_4,u19_5⟩,u19_6,⟨u19_7,u19_8,u19_9,u19_10,u19_11,u19_12,u19_13,u19_14⟩,u19_15,u19_16,u19_17,u19_18,u19_19⟩,hy19,hp⟩:=hp
       refine L_idxR (X:=y11x1) rfl rfl rfl el27.h mm hy19 ?_
       refine L_conv (M':=treeH (u19_1,u19_2,u19_3,(u19_4,u19_5),u19_6,(u19_7,u19_8,u19_9,u19_10,u19_11,u19_12,u19_13,u19_14),u19_15,u19_16,u19_17,u19_18,u19_19)::elsT (y11x1.els.drop (v17_0.toNat+1))::_) (fun w h=>els_next hy19.2 pk h) ?_
       refine xL ((u19_1,u19_2,u19_3,(u19_4,u19_5),u19_6,(u19_7,u19_8,u19_9,u19_10,u19_11,u19_12,u19_13,u19_14),u19_15,u19_16,u19_17,u19_18,u19_19):T_EMsg) ?_
       refine L_loadW rfl rfl (RdC.row (X:=y11x1) mm hy19.2) (by exact agg103.h) ?_
       refine al fun bk12=>?_
       refine s7 ?_
       replace hp:=ba hp;obtain ⟨y20,hy20,hp⟩:=hp
       refine L_callX rfl fn65.h rfl (by exact fun w hw=>i_hasMsg_walk w v17_1 (u19_1,u19_2,u19_3,(u19_4,u19_5),u19_6,(u19_7,u19_8,u19_9,u19_10,u19_11,u19_12,u19_13,u19_14),u19_15,u19_16,u19_17,u19_18,u19_19) (RdT.now (RdT.tree mm) hw) (RdT.now (RdT.pair RdT.int (RdT.pair RdT.int (RdT.pair RdT.int (RdT.pair (RdT.pair RdT.int RdT.int) (RdT.pair RdT.int (RdT.pair (RdT.pair RdT.int (RdT.pair RdT.int (RdT.pair RdT.int (RdT.pair RdT.str (RdT.pair RdT.str (RdT.pair RdT.str (RdT.pair RdT.int (RdT.tree mm)))))))) (RdT.pair RdT.int (RdT.pair (RdT.tree mm) (RdT.pair RdT.int (RdT.pair RdT.int RdT.bool)))))))))) hw) _ hy20) ?_
       refine s2 ?_
       refine kp [2,4,10,12,108,109,110,118] ?_
       refine W_cond rfl (fun q21=>?_) (fun q21=>?_)
       ·replace hp:=cond_t q21 hp
        refine s4 ?_
        refine L_buildSlice1 rfl rfl el27.h rfl (by decide) (by decide) rfl (fun bb122=>?_)
        replace hp:=ba hp;obtain ⟨y23,hy23,hp⟩:=hp
        refine jL ((u19_1,u19_2,u19_3,(u19_4,u19_5),u19_6,(u19_7,u19_8,u19_9,u19_10,u19_11,u19_12,u19_13,u19_14),u19_15,u19_16,u19_17,u19_18,u19_19):T_EMsg) ?_
        refine L_app1m (X:=v17_1) ((u19_1,u19_2,u19_3,(u19_4,u19_5),u19_6,(u19_7,u19_8,u19_9,u19_10,u19_11,u19_12,u19_13,u19_14),u19_15,u19_16,u19_17,u19_18,u19_19):T_EMsg) rfl rfl rfl el27.h rfl rfl pk mm pk hy23 (by decide) (fun X22 hdX22 hmX22=>?_)
        subst hdX22
        refine s7 ?_
        exact ⟨(IntKind.wrap .i64 (v17_0+1),X22),sb,⟨_,fun w h=>(els_step hy19 mm pk h),ms⟩,some_eq hp⟩
       ·replace hp:=cond_f q21 hp
        refine s5 ?_
        exact ⟨(IntKind.wrap .i64 (v17_0+1),v17_1),sb,⟨_,fun w h=>(els_step hy19 mm pk h),ms⟩,some_eq hp⟩
      ·replace hp:=cond_f q18 hp
       refine W_exit ?_
       replace hp:=map_any hp;obtain ⟨a24,hp,z_24⟩:=hp
       obtain rfl:=hx17 _ z_24
       refine s8 ?_
       refine kp [2,4,10,129] ?_
       refine W_cond rfl (fun q25=>?_) (fun q25=>?_)
       ·replace hp:=cond_t q25 hp
        refine s3 ?_
        replace hp:=ba hp;obtain ⟨y26,hy26,hp⟩:=hp
        refine L_callR rfl fn67.h rfl (by exact fun w hw=>i_copyENet_walk w (a0_1,a0_2) (RdT.now (RdT.pair (RdT.old h0.1) (RdT.old h0.2)) hw) _ hy26) ?_
        rintro _ _ ⟨⟨y26x0_1,y26x0_2⟩,rfl,rfl,rfl⟩
        refine sc ?_
        replace hp:=dd hp
        refine xL ((y26x0_1,y26x0_2):T_ENet) ?_
        refine s3 ?_
        obtain rfl:=sj hp
        refine jW ((y26x0_1,y26x0_2):T_ENet) ?_
        refine s1 ?_
        refine res2 rfl (ResOK.cell rfl mm (by exact agg29.h)) (ResOK.tmp rfl) ⟨(y26x0_1,y26x0_2),false,rfl,rfl,rfl⟩ ms
       ·replace hp:=cond_f q25 hp
        refine s7 ?_
        obtain rfl:=sj hp
        refine jW ((X16,v17_1):T_ENet) ?_
        refine s1 ?_
        refine res2 rfl (ResOK.cell rfl mm (by exact agg29.h)) (ResOK.tmp rfl) ⟨(X16,v17_1),true,rfl,rfl,rfl⟩ ms
    ·replace hp:=cond_f q10 hp
     refine s5 ?_
     refine kp [2,3,4,6,7,8,9,46,57] ?_
     refine W_cond rfl (fun q27=>?_) (fun q27=>?_)
     ·replace hp:=cond_t q27 hp
      refine W_AG [] 12 mix ?_
      refine AG_A [blk bk7 [.int .i64 u9_1,.int .i64 u9_2,(TL.hdr u9_3),(TL.hdr u9_4)] 44] trivial ?_
      refine AG_take 0 [] rfl (PU_loadW rfl rfl (RdC.blk mm) (by exact agg44.h)) (by kernel_rfl) (by kernel_rfl) (by kernel_rfl) (by kernel_rfl) rfl (by kernel_rfl) ⟨mm,trivial⟩ ?_
      refine AG_take 1 [] rfl (PU_fieldAddr rfl rfl fld29_1.h) (by kernel_rfl) (by kernel_rfl) (by kernel_rfl) (by kernel_rfl) rfl (by kernel_rfl) ⟨mm,trivial⟩ ?_
      refine AG_A [blk bk2 [(TL.hdr a0_1),(TL.hdr a0_2)] 29,blk bk7 [.int .i64 u9_1,.int .i64 u9_2,(TL.hdr u9_3),(TL.hdr u9_4)] 44] ⟨mm,trivial⟩ ?_
      refine AG_take 2 [] rfl (PU_load rfl rfl (RdC.blk mm) one27.h rfl) (by kernel_rfl) (by kernel_rfl) (by kernel_rfl) (by kernel_rfl) rfl (by kernel_rfl) ⟨mm,⟨mm,trivial⟩⟩ ?_
      refine AG_take 3 [] rfl (PU_fieldAddr rfl rfl fld40_2.h) (by kernel_rfl) (by kernel_rfl) (by kernel_rfl) (by kernel_rfl) rfl (by kernel_rfl) ⟨mm,⟨mm,trivial⟩⟩ ?_
      refine AG_A [blk bk3 [.int .i64 a1_1,.int .i64 a1_2,.int .i64 a1_3,.int .i64 a1_4,.int .i64 a1_5,.int .i64 a1_6,.int .i64 a1_7,.int .i64 a1_8,.string a1_9,.string a1_10,.string a1_11,.int .i64 a1_12,(TL.hdr a1_13)] 40,blk bk2 [(TL.hdr a0_1),(TL.hdr a0_2)] 29,blk bk7 [.int .i64 u9_1,.int .i64 u9_2,(TL.hdr u9_3),(TL.hdr u9_4)] 44] ⟨mm,⟨mm,trivial⟩⟩ ?_
      refine AG_take 4 [] rfl (PU_load rfl rfl (RdC.blk mm) one3.h rfl) (by kernel_rfl) (by kernel_rfl) (by kernel_rfl) (by kernel_rfl) rfl (by kernel_rfl) ⟨mm,⟨mm,⟨mm,trivial⟩⟩⟩ ?_
      replace hp:=idx_bind hp;obtain ⟨u28,hy28,hp⟩:=hp
      obtain rfl:(u5_1,u5_2,u5_3,(u5_4,u5_5),u5_6,(u5_7,u5_8,u5_9,u5_10,u5_11,u5_12,u5_13,u5_14),u5_15,u5_16,u5_17,u5_18,u5_19)=u28:=Option.some.inj (hy5.2.symm.trans hy28.2)
      refine AG_take 5 [] rfl (PU_idxA (X:=a0_2) rfl rfl rfl el27.h (RdT.old h0.2) hy5) (by kernel_rfl) (by kernel_rfl) (by kernel_rfl) (by kernel_rfl) rfl (by kernel_rfl) ⟨mm,⟨mm,⟨mm,trivial⟩⟩⟩ ?_
      refine AG_take 6 [] rfl (PU_loadW rfl rfl (RdT.at (RdT.old h0.2) (hy5).2) (by exact agg103.h)) (by kernel_rfl) (by kernel_rfl) (by kernel_rfl) (by kernel_rfl) rfl (by kernel_rfl) ⟨mm,⟨mm,⟨mm,trivial⟩⟩⟩ ?_
      refine AG_one 7 rfl rfl (by kernel_rfl) ?_
      replace hp:=ba hp;obtain ⟨y29,hy29,hp⟩:=hp
      refine L_callR rfl fn69.h rfl (by exact fun w hw=>i_ENodeGet_walk w (u9_1,u9_2,u9_3,u9_4) (u5_1,u5_2,u5_3,(u5_4,u5_5),u5_6,(u5_7,u5_8,u5_9,u5_10,u5_11,u5_12,u5_13,u5_14),u5_15,u5_16,u5_17,u5_18,u5_19) (RdT.now (RdT.pair RdT.int (RdT.pair RdT.int (RdT.pair (RdT.fst (RdT.snd (RdT.snd (RdT.of (RdT.old h0.1) (hy9).2)))) (RdT.snd (RdT.snd (RdT.snd (RdT.of (RdT.old h0.1) (hy9).2))))))) hw) (RdT.now (RdT.pair RdT.int (RdT.pair RdT.int (RdT.pair RdT.int (RdT.pair (RdT.pair RdT.int RdT.int) (RdT.pair RdT.int (RdT.pair (RdT.pair RdT.int (RdT.pair RdT.int (RdT.pair RdT.int (RdT.pair RdT.str (RdT.pair RdT.str (RdT.pair RdT.str (RdT.pair RdT.int (RdT.snd (RdT.snd (RdT.snd (RdT.snd (RdT.snd (RdT.snd (RdT.snd (RdT.fst (RdT.snd (RdT.snd (RdT.snd (RdT.snd (RdT.snd (RdT.of (RdT.old h0.2) (hy5).2))))))))))))))))))))) (RdT.pair RdT.int (RdT.pair (RdT.fst (RdT.snd (RdT.snd (RdT.snd (RdT.snd (RdT.snd (RdT.snd (RdT.snd (RdT.of (RdT.old h0.2) (hy5).2))))))))) (RdT.pair RdT.int (RdT.pair RdT.int RdT.bool)))))))))) hw) _ hy29) ?_
      rintro _ _ ⟨⟨y29x0_1,y29x0_2,y29x0_3,y29x0_4⟩,y29x1,y29x2,rfl,rfl,rfl⟩
      refine sc ?_
      replace hp:=dd hp
      refine xL ((y29x0_1,y29x0_2,y29x0_3,y29x0_4):T_ENode) ?_
      refine L_nil ⟨⟨mm,⟨mm,⟨mm,trivial⟩⟩⟩,?_⟩
      refine AG_take 8 [] rfl (PU_move rfl rfl) (by kernel_rfl) (by kernel_rfl) (by kernel_rfl) (by kernel_rfl) rfl (by kernel_rfl) ⟨mm,⟨mm,⟨mm,trivial⟩⟩⟩ ?_
      refine AG_take 9 [] rfl (PU_extract rfl rfl rfl) (by kernel_rfl) (by kernel_rfl) (by kernel_rfl) (by kernel_rfl) rfl (by kernel_rfl) ⟨mm,⟨mm,⟨mm,trivial⟩⟩⟩ ?_
      refine AG_take0 10 rfl (fun _=>PU_extract rfl rfl rfl) (by kernel_rfl) (by kernel_rfl) (by kernel_rfl) rfl ⟨mm,⟨mm,⟨mm,trivial⟩⟩⟩ ?_
      refine AG_take0 11 rfl (fun _=>PU_extract (v:=.bool y29x2) rfl rfl rfl) (by kernel_rfl) (by kernel_rfl) (by kernel_rfl) rfl ⟨mm,⟨mm,⟨mm,trivial⟩⟩⟩ ?_
      refine AG_lastH 12 rfl rfl (by kernel_rfl) (by kernel_rfl) ?_
      refine s2 ?_
      refine AH_one 13 rfl rfl (by kernel_rfl) ?_
      refine s1 ?_
      refine L_nil ⟨trivial,?_⟩
      refine AH_one 14 rfl rfl (by kernel_rfl) ?_
      refine s1 ?_
      refine L_nil ⟨trivial,?_⟩
      refine AH_done (by kernel_rfl) ?_
      refine s3 ?_
      replace hp:=ba hp;obtain ⟨y30,hy30,hp⟩:=hp
      refine L_callR rfl fn67.h rfl (by exact fun w hw=>i_copyENet_walk w (a0_1,a0_2) (RdT.now (RdT.pair (RdT.old h0.1) (RdT.old h0.2)) hw) _ hy30) ?_
      rintro _ _ ⟨⟨y30x0_1,y30x0_2⟩,rfl,rfl,rfl⟩
      refine sc ?_
      replace hp:=dd hp
      refine xL ((y30x0_1,y30x0_2):T_ENet) ?_
      refine al fun bk10=>?_
      refine s8 ?_
      refine kp [2,4,6,7,8,10,101] ?_
      refine W_cond rfl (fun q31=>?_) (fun q31=>?_)
      ·replace hp:=cond_t q31 hp
       refine s6 ?_
       obtain rfl:=sj hp
       refine jW ((y30x0_1,y30x0_2):T_ENet) ?_
       refine s1 ?_
       refine res2 rfl (ResOK.cell rfl mm (by exact agg29.h)) (ResOK.tmp rfl) ⟨(y30x0_1,y30x0_2),false,rfl,rfl,rfl⟩ ms
      ·replace hp:=cond_f q31 hp
       refine s7 ?_
       replace hp:=idx_bind hp;obtain ⟨⟨u32_1,u32_2,u32_3,u32_4⟩,hy32,hp⟩:=hp
       refine L_idxA (X:=y30x0_1) rfl rfl rfl el26.h (RdT.tree mm) hy32 ?_
       refine L_conv (M':=treeH (u32_1,u32_2,u32_3,u32_4)::holeH y30x0_1 (u5_3.toNat) (GT.cells (u32_1,u32_2,u32_3,u32_4))::_) (fun w h=>hole_open hy32.2 pk h) ?_
       refine xL ((u32_1,u32_2,u32_3,u32_4):T_ENode) ?_
       refine L_stH (X:=y30x0_1) (i:=u5_3.toNat) (sz:=4) (fo:=0) (n:=4) rfl rfl pk rfl (.inl agg44.h) rfl (allOne rfl) (Nat.le_of_ble_eq_true rfl) ?_
       refine jL ((y29x0_1,y29x0_2,y29x0_3,y29x0_4):T_ENode) ?_
       replace hp:=ba hp;obtain ⟨y33,hy33,hp⟩:=hp
       refine L_close (X:=y30x0_1) ((y29x0_1,y29x0_2,y29x0_3,y29x0_4):T_ENode) rfl pk pk hy33 (fun X34 hdX34 hhX34=>?_)
       subst hdX34
       try rw [← hhX34]
       try rw [← g_of_hdr hhX34]
       try rw [← o_of_hdr hhX34]
       refine s9 ?_
       refine W_conv (M':=rowH y29x1::elsT (y29x1.els.drop 0)::_) (fun w h=>els_start pk h) ?_
       refine W_while (σ:=Int×(TL T_EMsg)) GT.dat (fun ((v35_0,v35_1):Int×(TL T_EMsg))=>[(110,.int .i64 v35_0)]) (fun ((v35_0,v35_1):Int×(TL T_EMsg))=>[blk bk10 [(TL.hdr X34),(TL.hdr v35_1)] 29,treeH v35_1,elsT (y29x1.els.drop (v35_0.toNat))]) [(2,_),(4,_),(10,_),(108,_),(109,_)] [blk bk2 _ _,blk bk4 _ _,treeH X34,rowH y29x1] (0,y30x0_2) hp sb ms ?_
       clear hp
       rintro ⟨v35_0,v35_1⟩ x35 hp hx35
       replace hp:=dd hp
       refine kq [2,4,10,108,109,110] ?_
       refine s5 ?_
       refine kp [2,4,10,108,109,110,111] ?_
       refine W_cond rfl (fun q36=>?_) (fun q36=>?_)
       ·replace hp:=cond_t q36 hp
        refine s5 ?_
        replace hp:=idx_bind hp;obtain ⟨⟨u37_1,u37_2,u37_3,⟨u37_4,u37_5⟩,u37_6,⟨u37_7,u37_8,u37_9,u37_10,u37_11,u37_12,u37_13,u37_14⟩,u37_15,u37_16,u37_17,u37_18,u37_19⟩,hy37,hp⟩:=hp
        refine L_idxR (X:=y29x1) rfl rfl rfl el27.h mm hy37 ?_
        refine L_conv (M':=treeH (u37_1,u37_2,u37_3,(u37_4,u37_5),u37_6,(u37_7,u37_8,u37_9,u37_10,u37_11,u37_12,u37_13,u37_14),u37_15,u37_16,u37_17,u37_18,u37_19)::elsT (y29x1.els.drop (v35_0.toNat+1))::_) (fun w h=>els_next hy37.2 pk h) ?_
        refine xL ((u37_1,u37_2,u37_3,(u37_4,u37_5),u37_6,(u37_7,u37_8,u37_9,u37_10,u37_11,u37_12,u37_13,u37_14),u37_15,u37_16,u37_17,u37_18,u37_19):T_EMsg) ?_
        refine L_loadW rfl rfl (RdC.row (X:=y29x1) mm hy37.2) (by exact agg103.h) ?_
        refine al fun bk12=>?_
        refine s7 ?_
        replace hp:=ba hp;obtain ⟨y38,hy38,hp⟩:=hp
        refine L_callX rfl fn65.h rfl (by exact fun w hw=>i_hasMsg_walk w v35_1 (u37_1,u37_2,u37_3,(u37_4,u37_5),u37_6,(u37_7,u37_8,u37_9,u37_10,u37_11,u37_12,u37_13,u37_14),u37_15,u37_16,u37_17,u37_18,u37_19) (RdT.now (RdT.tree mm) hw) (RdT.now (RdT.pair RdT.int (RdT.pair RdT.int (RdT.pair RdT.int (RdT.pair (RdT.pair RdT.int RdT.int) (RdT.pair RdT.int (RdT.pair (RdT.pair RdT.int (RdT.pair RdT.int (RdT.pair RdT.int (RdT.pair RdT.str (RdT.pair RdT.str (RdT.pair RdT.str (RdT.pair RdT.int (RdT.tree mm)))))))) (RdT.pair RdT.int (RdT.pair (RdT.tree mm) (RdT.pair RdT.int (RdT.pair RdT.int RdT.bool)))))))))) hw) _ hy38) ?_
        refine s2 ?_
        refine kp [2,4,10,12,108,109,110,118] ?_
        refine W_cond rfl (fun q39=>?_) (fun q39=>?_)
        ·replace hp:=cond_t q39 hp
         refine s4 ?_
         refine L_buildSlice1 rfl rfl el27.h rfl (by decide) (by decide) rfl (fun bb122=>?_)
         replace hp:=ba hp;obtain ⟨y41,hy41,hp⟩:=hp
         refine jL ((u37_1,u37_2,u37_3,(u37_4,u37_5),u37_6,(u37_7,u37_8,u37_9,u37_10,u37_11,u37_12,u37_13,u37_14),u37_15,u37_16,u37_17,u37_18,u37_19):T_EMsg) ?_
         refine L_app1m (X:=v35_1) ((u37_1,u37_2,u37_3,(u37_4,u37_5),u37_6,(u37_7,u37_8,u37_9,u37_10,u37_11,u37_12,u37_13,u37_14),u37_15,u37_16,u37_17,u37_18,u37_19):T_EMsg) rfl rfl rfl el27.h rfl rfl pk mm pk hy41 (by decide) (fun X40 hdX40 hmX40=>?_)
         subst hdX40
         refine s7 ?_
         exact ⟨(IntKind.wrap .i64 (v35_0+1),X40),sb,⟨_,fun w h=>(els_step hy37 mm pk h),ms⟩,some_eq hp⟩
        ·replace hp:=cond_f q39 hp
         refine s5 ?_
         exact ⟨(IntKind.wrap .i64 (v35_0+1),v35_1),sb,⟨_,fun w h=>(els_step hy37 mm pk h),ms⟩,some_eq hp⟩
       ·replace hp:=cond_f q36 hp
        refine W_exit ?_
        replace hp:=map_any hp;obtain ⟨a42,hp,z_42⟩:=hp
        obtain rfl:=hx35 _ z_42
        refine s8 ?_
        refine kp [2,4,10,129] ?_
        refine W_cond rfl (fun q43=>?_) (fun q43=>?_)
        ·replace hp:=cond_t q43 hp
         refine s3 ?_
         replace hp:=ba hp;obtain ⟨y44,hy44,hp⟩:=hp
         refine L_callR rfl fn67.h rfl (by exact fun w hw=>i_copyENet_walk w (a0_1,a0_2) (RdT.now (RdT.pair (RdT.old h0.1) (RdT.old h0.2)) hw) _ hy44) ?_
         rintro _ _ ⟨⟨y44x0_1,y44x0_2⟩,rfl,rfl,rfl⟩
         refine sc ?_
         replace hp:=dd hp
         refine xL ((y44x0_1,y44x0_2):T_ENet) ?_
         refine s3 ?_
         obtain rfl:=sj hp
         refine jW ((y44x0_1,y44x0_2):T_ENet) ?_
         refine s1 ?_
         refine res2 rfl (ResOK.cell rfl mm (by exact agg29.h)) (ResOK.tmp rfl) ⟨(y44x0_1,y44x0_2),false,rfl,rfl,rfl⟩ ms
        ·replace hp:=cond_f q43 hp
         refine s7 ?_
         obtain rfl:=sj hp
         refine jW ((X34,v35_1):T_ENet) ?_
         refine s1 ?_
         refine res2 rfl (ResOK.cell rfl mm (by exact agg29.h)) (ResOK.tmp rfl) ⟨(X34,v35_1),true,rfl,rfl,rfl⟩ ms
     ·replace hp:=cond_f q27 hp
      refine s5 ?_
      refine kp [2,3,4,6,7,8,9,46,71] ?_
      refine W_cond rfl (fun q45=>?_) (fun q45=>?_)
      ·replace hp:=cond_t q45 hp
       refine s3 ?_
       refine L_loadW rfl rfl (RdC.seg (RdC.blk mm) 3 2 rfl) (by exact agg35.h) ?_
       replace hp:=ba hp;obtain ⟨y46,hy46,hp⟩:=hp
       refine L_callR rfl fn70.h rfl (by exact fun w hw=>i_ENodeSlow_walk w (u9_1,u9_2,u9_3,u9_4) (a1_4,a1_5) (RdT.now (RdT.pair RdT.int (RdT.pair RdT.int (RdT.pair (RdT.fst (RdT.snd (RdT.snd (RdT.of (RdT.old h0.1) (hy9).2)))) (RdT.snd (RdT.snd (RdT.snd (RdT.of (RdT.old h0.1) (hy9).2))))))) hw) (RdT.now (RdT.pair RdT.int RdT.int) hw) _ hy46) ?_
       rintro _ _ ⟨⟨y46x0_1,y46x0_2,y46x0_3,y46x0_4⟩,y46x1,y46x2,rfl,rfl,rfl⟩
       refine sc ?_
       replace hp:=dd hp
       refine xL ((y46x0_1,y46x0_2,y46x0_3,y46x0_4):T_ENode) ?_
       refine s11 ?_
       replace hp:=ba hp;obtain ⟨y47,hy47,hp⟩:=hp
       refine L_callR rfl fn67.h rfl (by exact fun w hw=>i_copyENet_walk w (a0_1,a0_2) (RdT.now (RdT.pair (RdT.old h0.1) (RdT.old h0.2)) hw) _ hy47) ?_
       rintro _ _ ⟨⟨y47x0_1,y47x0_2⟩,rfl,rfl,rfl⟩
       refine sc ?_
       replace hp:=dd hp
       refine xL ((y47x0_1,y47x0_2):T_ENet) ?_
       refine al fun bk10=>?_
       refine s8 ?_
       refine kp [2,4,6,7,8,10,101] ?_
       refine W_cond rfl (fun q48=>?_) (fun q48=>?_)
       ·replace hp:=cond_t q48 hp
        refine s6 ?_
        obtain rfl:=sj hp
        refine jW ((y47x0_1,y47x0_2):T_ENet) ?_
        refine s1 ?_
        refine res2 rfl (ResOK.cell rfl mm (by exact agg29.h)) (ResOK.tmp rfl) ⟨(y47x0_1,y47x0_2),false,rfl,rfl,rfl⟩ ms
       ·replace hp:=cond_f q48 hp
        refine s7 ?_
        replace hp:=idx_bind hp;obtain ⟨⟨u49_1,u49_2,u49_3,u49_4⟩,hy49,hp⟩:=hp
        refine L_idxA (X:=y47x0_1) rfl rfl rfl el26.h (RdT.tree mm) hy49 ?_
        refine L_conv (M':=treeH (u49_1,u49_2,u49_3,u49_4)::holeH y47x0_1 (u5_3.toNat) (GT.cells (u49_1,u49_2,u49_3,u49_4))::_) (fun w h=>hole_open hy49.2 pk h) ?_
        refine xL ((u49_1,u49_2,u49_3,u49_4):T_ENode) ?_
        refine L_stH (X:=y47x0_1) (i:=u5_3.toNat) (sz:=4) (fo:=0) (n:=4) rfl rfl pk rfl (.inl agg44.h) rfl (allOne rfl) (Nat.le_of_ble_eq_true rfl) ?_
        refine jL ((y46x0_1,y46x0_2,y46x0_3,y46x0_4):T_ENode) ?_
        replace hp:=ba hp;obtain ⟨y50,hy50,hp⟩:=hp
        refine L_close (X:=y47x0_1) ((y46x0_1,y46x0_2,y46x0_3,y46x0_4):T_ENode) rfl pk pk hy50 (fun X51 hdX51 hhX51=>?_)
        subst hdX51
        try rw [← hhX51]
        try rw [← g_of_hdr hhX51]
        try rw [← o_of_hdr hhX51]
        refine s9 ?_
        refine W_conv (M':=rowH y46x1::elsT (y46x1.els.drop 0)::_) (fun w h=>els_start pk h) ?_
        refine W_while (σ:=Int×(TL T_EMsg)) GT.dat (fun ((v52_0,v52_1):Int×(TL T_EMsg))=>[(110,.int .i64 v52_0)]) (fun ((v52_0,v52_1):Int×(TL T_EMsg))=>[blk bk10 [(TL.hdr X51),(TL.hdr v52_1)] 29,treeH v52_1,elsT (y46x1.els.drop (v52_0.toNat))]) [(2,_),(4,_),(10,_),(108,_),(109,_)] [blk bk2 _ _,blk bk4 _ _,treeH X51,rowH y46x1] (0,y47x0_2) hp sb ms ?_
        clear hp
        rintro ⟨v52_0,v52_1⟩ x52 hp hx52
        replace hp:=dd hp
        refine kq [2,4,10,108,109,110] ?_
        refine s5 ?_
        refine kp [2,4,10,108,109,110,111] ?_
        refine W_cond rfl (fun q53=>?_) (fun q53=>?_)
        ·replace hp:=cond_t q53 hp
         refine s5 ?_
         replace hp:=idx_bind hp;obtain ⟨⟨u54_1,u54_2,u54_3,⟨u54_4,u54_5⟩,u54_6,⟨u54_7,u54_8,u54_9,u54_10,u54_11,u54_12,u54_13,u54_14⟩,u54_15,u54_16,u54_17,u54_18,u54_19⟩,hy54,hp⟩:=hp
         refine L_idxR (X:=y46x1) rfl rfl rfl el27.h mm hy54 ?_
         refine L_conv (M':=treeH (u54_1,u54_2,u54_3,(u54_4,u54_5),u54_6,(u54_7,u54_8,u54_9,u54_10,u54_11,u54_12,u54_13,u54_14),u54_15,u54_16,u54_17,u54_18,u54_19)::elsT (y46x1.els.drop (v52_0.toNat+1))::_) (fun w h=>els_next hy54.2 pk h) ?_
         refine xL ((u54_1,u54_2,u54_3,(u54_4,u54_5),u54_6,(u54_7,u54_8,u54_9,u54_10,u54_11,u54_12,u54_13,u54_14),u54_15,u54_16,u54_17,u54_18,u54_19):T_EMsg) ?_
         refine L_loadW rfl rfl (RdC.row (X:=y46x1) mm hy54.2) (by exact agg103.h) ?_
         refine al fun bk12=>?_
         refine s7 ?_
         replace hp:=ba hp;obtain ⟨y55,hy55,hp⟩:=hp
         refine L_callX rfl fn65.h rfl (by exact fun w hw=>i_hasMsg_walk w v52_1 (u54_1,u54_2,u54_3,(u54_4,u54_5),u54_6,(u54_7,u54_8,u54_9,u54_10,u54_11,u54_12,u54_13,u54_14),u54_15,u54_16,u54_17,u54_18,u54_19) (RdT.now (RdT.tree mm) hw) (RdT.now (RdT.pair RdT.int (RdT.pair RdT.int (RdT.pair RdT.int (RdT.pair (RdT.pair RdT.int RdT.int) (RdT.pair RdT.int (RdT.pair (RdT.pair RdT.int (RdT.pair RdT.int (RdT.pair RdT.int (RdT.pair RdT.str (RdT.pair RdT.str (RdT.pair RdT.str (RdT.pair RdT.int (RdT.tree mm)))))))) (RdT.pair RdT.int (RdT.pair (RdT.tree mm) (RdT.pair RdT.int (RdT.pair RdT.int RdT.bool)))))))))) hw) _ hy55) ?_
         refine s2 ?_
         refine kp [2,4,10,12,108,109,110,118] ?_
         refine W_cond rfl (fun q56=>?_) (fun q56=>?_)
         ·replace hp:=cond_t q56 hp
          refine s4 ?_
          refine L_buildSlice1 rfl rfl el27.h rfl (by decide) (by decide) rfl (fun bb122=>?_)
          replace hp:=ba hp;obtain ⟨y58,hy58,hp⟩:=hp
          refine jL ((u54_1,u54_2,u54_3,(u54_4,u54_5),u54_6,(u54_7,u54_8,u54_9,u54_10,u54_11,u54_12,u54_13,u54_14),u54_15,u54_16,u54_17,u54_18,u54_19):T_EMsg) ?_
          refine L_app1m (X:=v52_1) ((u54_1,u54_2,u54_3,(u54_4,u54_5),u54_6,(u54_7,u54_8,u54_9,u54_10,u54_11,u54_12,u54_13,u54_14),u54_15,u54_16,u54_17,u54_18,u54_19):T_EMsg) rfl rfl rfl el27.h rfl rfl pk mm pk hy58 (by decide) (fun X57 hdX57 hmX57=>?_)
          subst hdX57
          refine s7 ?_
          exact ⟨(IntKind.wrap .i64 (v52_0+1),X57),sb,⟨_,fun w h=>(els_step hy54 mm pk h),ms⟩,some_eq hp⟩
         ·replace hp:=cond_f q56 hp
          refine s5 ?_
          exact ⟨(IntKind.wrap .i64 (v52_0+1),v52_1),sb,⟨_,fun w h=>(els_step hy54 mm pk h),ms⟩,some_eq hp⟩
        ·replace hp:=cond_f q53 hp
         refine W_exit ?_
         replace hp:=map_any hp;obtain ⟨a59,hp,z_59⟩:=hp
         obtain rfl:=hx52 _ z_59
         refine s8 ?_
         refine kp [2,4,10,129] ?_
         refine W_cond rfl (fun q60=>?_) (fun q60=>?_)
         ·replace hp:=cond_t q60 hp
          refine s3 ?_
          replace hp:=ba hp;obtain ⟨y61,hy61,hp⟩:=hp
          refine L_callR rfl fn67.h rfl (by exact fun w hw=>i_copyENet_walk w (a0_1,a0_2) (RdT.now (RdT.pair (RdT.old h0.1) (RdT.old h0.2)) hw) _ hy61) ?_
          rintro _ _ ⟨⟨y61x0_1,y61x0_2⟩,rfl,rfl,rfl⟩
          refine sc ?_
          replace hp:=dd hp
          refine xL ((y61x0_1,y61x0_2):T_ENet) ?_
          refine s3 ?_
          obtain rfl:=sj hp
          refine jW ((y61x0_1,y61x0_2):T_ENet) ?_
          refine s1 ?_
          refine res2 rfl (ResOK.cell rfl mm (by exact agg29.h)) (ResOK.tmp rfl) ⟨(y61x0_1,y61x0_2),false,rfl,rfl,rfl⟩ ms
         ·replace hp:=cond_f q60 hp
          refine s7 ?_
          obtain rfl:=sj hp
          refine jW ((X51,v52_1):T_ENet) ?_
          refine s1 ?_
          refine res2 rfl (ResOK.cell rfl mm (by exact agg29.h)) (ResOK.tmp rfl) ⟨(X51,v52_1),true,rfl,rfl,rfl⟩ ms
      ·replace hp:=cond_f q45 hp
       refine s5 ?_
       refine kp [2,3,4,6,7,8,9,46,81] ?_
       refine W_cond rfl (fun q62=>?_) (fun q62=>?_)
       ·replace hp:=cond_t q62 hp
        refine s3 ?_
        refine L_loadW rfl rfl (RdC.seg (RdC.blk mm) 3 2 rfl) (by exact agg35.h) ?_
        replace hp:=ba hp;obtain ⟨y63,hy63,hp⟩:=hp
        refine L_callR rfl fn71.h rfl (by exact fun w hw=>i_ENodeRecover_walk w (u9_1,u9_2,u9_3,u9_4) (a1_4,a1_5) (RdT.now (RdT.pair RdT.int (RdT.pair RdT.int (RdT.pair (RdT.fst (RdT.snd (RdT.snd (RdT.of (RdT.old h0.1) (hy9).2)))) (RdT.snd (RdT.snd (RdT.snd (RdT.of (RdT.old h0.1) (hy9).2))))))) hw) (RdT.now (RdT.pair RdT.int RdT.int) hw) _ hy63) ?_
        rintro _ _ ⟨⟨y63x0_1,y63x0_2,y63x0_3,y63x0_4⟩,y63x1,y63x2,rfl,rfl,rfl⟩
        refine sc ?_
        replace hp:=dd hp
        refine xL ((y63x0_1,y63x0_2,y63x0_3,y63x0_4):T_ENode) ?_
        refine s11 ?_
        replace hp:=ba hp;obtain ⟨y64,hy64,hp⟩:=hp
        refine L_callR rfl fn67.h rfl (by exact fun w hw=>i_copyENet_walk w (a0_1,a0_2) (RdT.now (RdT.pair (RdT.old h0.1) (RdT.old h0.2)) hw) _ hy64) ?_
        rintro _ _ ⟨⟨y64x0_1,y64x0_2⟩,rfl,rfl,rfl⟩
        refine sc ?_
        replace hp:=dd hp
        refine xL ((y64x0_1,y64x0_2):T_ENet) ?_
        refine al fun bk10=>?_
        refine s8 ?_
        refine kp [2,4,6,7,8,10,101] ?_
        refine W_cond rfl (fun q65=>?_) (fun q65=>?_)
        ·replace hp:=cond_t q65 hp
         refine s6 ?_
         obtain rfl:=sj hp
         refine jW ((y64x0_1,y64x0_2):T_ENet) ?_
         refine s1 ?_
         refine res2 rfl (ResOK.cell rfl mm (by exact agg29.h)) (ResOK.tmp rfl) ⟨(y64x0_1,y64x0_2),false,rfl,rfl,rfl⟩ ms
        ·replace hp:=cond_f q65 hp
         refine s7 ?_
         replace hp:=idx_bind hp;obtain ⟨⟨u66_1,u66_2,u66_3,u66_4⟩,hy66,hp⟩:=hp
         refine L_idxA (X:=y64x0_1) rfl rfl rfl el26.h (RdT.tree mm) hy66 ?_
         refine L_conv (M':=treeH (u66_1,u66_2,u66_3,u66_4)::holeH y64x0_1 (u5_3.toNat) (GT.cells (u66_1,u66_2,u66_3,u66_4))::_) (fun w h=>hole_open hy66.2 pk h) ?_
         refine xL ((u66_1,u66_2,u66_3,u66_4):T_ENode) ?_
         refine L_stH (X:=y64x0_1) (i:=u5_3.toNat) (sz:=4) (fo:=0) (n:=4) rfl rfl pk rfl (.inl agg44.h) rfl (allOne rfl) (Nat.le_of_ble_eq_true rfl) ?_
         refine jL ((y63x0_1,y63x0_2,y63x0_3,y63x0_4):T_ENode) ?_
         replace hp:=ba hp;obtain ⟨y67,hy67,hp⟩:=hp
         refine L_close (X:=y64x0_1) ((y63x0_1,y63x0_2,y63x0_3,y63x0_4):T_ENode) rfl pk pk hy67 (fun X68 hdX68 hhX68=>?_)
         subst hdX68
         try rw [← hhX68]
         try rw [← g_of_hdr hhX68]
         try rw [← o_of_hdr hhX68]
         refine s9 ?_
         refine W_conv (M':=rowH y63x1::elsT (y63x1.els.drop 0)::_) (fun w h=>els_start pk h) ?_
         refine W_while (σ:=Int×(TL T_EMsg)) GT.dat (fun ((v69_0,v69_1):Int×(TL T_EMsg))=>[(110,.int .i64 v69_0)]) (fun ((v69_0,v69_1):Int×(TL T_EMsg))=>[blk bk10 [(TL.hdr X68),(TL.hdr v69_1)] 29,treeH v69_1,elsT (y63x1.els.drop (v69_0.toNat))]) [(2,_),(4,_),(10,_),(108,_),(109,_)] [blk bk2 _ _,blk bk4 _ _,treeH X68,rowH y63x1] (0,y64x0_2) hp sb ms ?_
         clear hp
         rintro ⟨v69_0,v69_1⟩ x69 hp hx69
         replace hp:=dd hp
         refine kq [2,4,10,108,109,110] ?_
         refine s5 ?_
         refine kp [2,4,10,108,109,110,111] ?_
         refine W_cond rfl (fun q70=>?_) (fun q70=>?_)
         ·replace hp:=cond_t q70 hp
          refine s5 ?_
          replace hp:=idx_bind hp;obtain ⟨⟨u71_1,u71_2,u71_3,⟨u71_4,u71_5⟩,u71_6,⟨u71_7,u71_8,u71_9,u71_10,u71_11,u71_12,u71_13,u71_14⟩,u71_15,u71_16,u71_17,u71_18,u71_19⟩,hy71,hp⟩:=hp
          refine L_idxR (X:=y63x1) rfl rfl rfl el27.h mm hy71 ?_
          refine L_conv (M':=treeH (u71_1,u71_2,u71_3,(u71_4,u71_5),u71_6,(u71_7,u71_8,u71_9,u71_10,u71_11,u71_12,u71_13,u71_14),u71_15,u71_16,u71_17,u71_18,u71_19)::elsT (y63x1.els.drop (v69_0.toNat+1))::_) (fun w h=>els_next hy71.2 pk h) ?_
          refine xL ((u71_1,u71_2,u71_3,(u71_4,u71_5),u71_6,(u71_7,u71_8,u71_9,u71_10,u71_11,u71_12,u71_13,u71_14),u71_15,u71_16,u71_17,u71_18,u71_19):T_EMsg) ?_
          refine L_loadW rfl rfl (RdC.row (X:=y63x1) mm hy71.2) (by exact agg103.h) ?_
          refine al fun bk12=>?_
          refine s7 ?_
          replace hp:=ba hp;obtain ⟨y72,hy72,hp⟩:=hp
          refine L_callX rfl fn65.h rfl (by exact fun w hw=>i_hasMsg_walk w v69_1 (u71_1,u71_2,u71_3,(u71_4,u71_5),u71_6,(u71_7,u71_8,u71_9,u71_10,u71_11,u71_12,u71_13,u71_14),u71_15,u71_16,u71_17,u71_18,u71_19) (RdT.now (RdT.tree mm) hw) (RdT.now (RdT.pair RdT.int (RdT.pair RdT.int (RdT.pair RdT.int (RdT.pair (RdT.pair RdT.int RdT.int) (RdT.pair RdT.int (RdT.pair (RdT.pair RdT.int (RdT.pair RdT.int (RdT.pair RdT.int (RdT.pair RdT.str (RdT.pair RdT.str (RdT.pair RdT.str (RdT.pair RdT.int (RdT.tree mm)))))))) (RdT.pair RdT.int (RdT.pair (RdT.tree mm) (RdT.pair RdT.int (RdT.pair RdT.int RdT.bool)))))))))) hw) _ hy72) ?_
          refine s2 ?_
          refine kp [2,4,10,12,108,109,110,118] ?_
          refine W_cond rfl (fun q73=>?_) (fun q73=>?_)
          ·replace hp:=cond_t q73 hp
           refine s4 ?_
           refine L_buildSlice1 rfl rfl el27.h rfl (by decide) (by decide) rfl (fun bb122=>?_)
           replace hp:=ba hp;obtain ⟨y75,hy75,hp⟩:=hp
           refine jL ((u71_1,u71_2,u71_3,(u71_4,u71_5),u71_6,(u71_7,u71_8,u71_9,u71_10,u71_11,u71_12,u71_13,u71_14),u71_15,u71_16,u71_17,u71_18,u71_19):T_EMsg) ?_
           refine L_app1m (X:=v69_1) ((u71_1,u71_2,u71_3,(u71_4,u71_5),u71_6,(u71_7,u71_8,u71_9,u71_10,u71_11,u71_12,u71_13,u71_14),u71_15,u71_16,u71_17,u71_18,u71_19):T_EMsg) rfl rfl rfl el27.h rfl rfl pk mm pk hy75 (by decide) (fun X74 hdX74 hmX74=>?_)
           subst hdX74
           refine s7 ?_
           exact ⟨(IntKind.wrap .i64 (v69_0+1),X74),sb,⟨_,fun w h=>(els_step hy71 mm pk h),ms⟩,some_eq hp⟩
          ·replace hp:=cond_f q73 hp
           refine s5 ?_
           exact ⟨(IntKind.wrap .i64 (v69_0+1),v69_1),sb,⟨_,fun w h=>(els_step hy71 mm pk h),ms⟩,some_eq hp⟩
         ·replace hp:=cond_f q70 hp
          refine W_exit ?_
          replace hp:=map_any hp;obtain ⟨a76,hp,z_76⟩:=hp
          obtain rfl:=hx69 _ z_76
          refine s8 ?_
          refine kp [2,4,10,129] ?_
          refine W_cond rfl (fun q77=>?_) (fun q77=>?_)
          ·replace hp:=cond_t q77 hp
           refine s3 ?_
           replace hp:=ba hp;obtain ⟨y78,hy78,hp⟩:=hp
           refine L_callR rfl fn67.h rfl (by exact fun w hw=>i_copyENet_walk w (a0_1,a0_2) (RdT.now (RdT.pair (RdT.old h0.1) (RdT.old h0.2)) hw) _ hy78) ?_
           rintro _ _ ⟨⟨y78x0_1,y78x0_2⟩,rfl,rfl,rfl⟩
           refine sc ?_
           replace hp:=dd hp
           refine xL ((y78x0_1,y78x0_2):T_ENet) ?_
           refine s3 ?_
           obtain rfl:=sj hp
           refine jW ((y78x0_1,y78x0_2):T_ENet) ?_
           refine s1 ?_
           refine res2 rfl (ResOK.cell rfl mm (by exact agg29.h)) (ResOK.tmp rfl) ⟨(y78x0_1,y78x0_2),false,rfl,rfl,rfl⟩ ms
          ·replace hp:=cond_f q77 hp
           refine s7 ?_
           obtain rfl:=sj hp
           refine jW ((X68,v69_1):T_ENet) ?_
           refine s1 ?_
           refine res2 rfl (ResOK.cell rfl mm (by exact agg29.h)) (ResOK.tmp rfl) ⟨(X68,v69_1),true,rfl,rfl,rfl⟩ ms
       ·replace hp:=cond_f q62 hp
        refine s5 ?_
        refine kp [2,4,6,7,8,9,91] ?_
        refine W_cond rfl (fun q79=>?_) (fun q79=>?_)
        ·replace hp:=cond_t q79 hp
         refine s2 ?_
         replace hp:=ba hp;obtain ⟨y80,hy80,hp⟩:=hp
         refine L_callR rfl fn72.h rfl (by exact fun w hw=>i_ENodeFall_walk w (u9_1,u9_2,u9_3,u9_4) (RdT.now (RdT.pair RdT.int (RdT.pair RdT.int (RdT.pair (RdT.fst (RdT.snd (RdT.snd (RdT.of (RdT.old h0.1) (hy9).2)))) (RdT.snd (RdT.snd (RdT.snd (RdT.of (RdT.old h0.1) (hy9).2))))))) hw) _ hy80) ?_
         rintro _ _ ⟨⟨y80x0_1,y80x0_2,y80x0_3,y80x0_4⟩,y80x1,rfl,rfl,rfl⟩
         refine sc ?_
         replace hp:=dd hp
         refine xL ((y80x0_1,y80x0_2,y80x0_3,y80x0_4):T_ENode) ?_
         refine s9 ?_
         replace hp:=ba hp;obtain ⟨y81,hy81,hp⟩:=hp
         refine L_callR rfl fn67.h rfl (by exact fun w hw=>i_copyENet_walk w (a0_1,a0_2) (RdT.now (RdT.pair (RdT.old h0.1) (RdT.old h0.2)) hw) _ hy81) ?_
         rintro _ _ ⟨⟨y81x0_1,y81x0_2⟩,rfl,rfl,rfl⟩
         refine sc ?_
         replace hp:=dd hp
         refine xL ((y81x0_1,y81x0_2):T_ENet) ?_
         refine al fun bk10=>?_
         refine s8 ?_
         refine kp [2,4,6,7,8,10,101] ?_
         refine W_cond rfl (fun q82=>?_) (fun q82=>?_)
         ·replace hp:=cond_t q82 hp
          refine s6 ?_
          obtain rfl:=sj hp
          refine jW ((y81x0_1,y81x0_2):T_ENet) ?_
          refine s1 ?_
          refine res2 rfl (ResOK.cell rfl mm (by exact agg29.h)) (ResOK.tmp rfl) ⟨(y81x0_1,y81x0_2),false,rfl,rfl,rfl⟩ ms
         ·replace hp:=cond_f q82 hp
          refine s7 ?_
          replace hp:=idx_bind hp;obtain ⟨⟨u83_1,u83_2,u83_3,u83_4⟩,hy83,hp⟩:=hp
          refine L_idxA (X:=y81x0_1) rfl rfl rfl el26.h (RdT.tree mm) hy83 ?_
          refine L_conv (M':=treeH (u83_1,u83_2,u83_3,u83_4)::holeH y81x0_1 (u5_3.toNat) (GT.cells (u83_1,u83_2,u83_3,u83_4))::_) (fun w h=>hole_open hy83.2 pk h) ?_
          refine xL ((u83_1,u83_2,u83_3,u83_4):T_ENode) ?_
          refine L_stH (X:=y81x0_1) (i:=u5_3.toNat) (sz:=4) (fo:=0) (n:=4) rfl rfl pk rfl (.inl agg44.h) rfl (allOne rfl) (Nat.le_of_ble_eq_true rfl) ?_
          refine jL ((y80x0_1,y80x0_2,y80x0_3,y80x0_4):T_ENode) ?_
          replace hp:=ba hp;obtain ⟨y84,hy84,hp⟩:=hp
          refine L_close (X:=y81x0_1) ((y80x0_1,y80x0_2,y80x0_3,y80x0_4):T_ENode) rfl pk pk hy84 (fun X85 hdX85 hhX85=>?_)
          subst hdX85
          try rw [← hhX85]
          try rw [← g_of_hdr hhX85]
          try rw [← o_of_hdr hhX85]
          refine s9 ?_
          refine W_conv (M':=treeH (TL.nil T_EMsg 0)::_) (fun w h=>addNilT (τ:=T_EMsg) 0 h) ?_
          refine W_conv (M':=rowH (TL.nil T_EMsg 0)::elsT ((TL.nil T_EMsg 0).els.drop 0)::_) (fun w h=>els_start pk h) ?_
          refine W_while (σ:=Int×(TL T_EMsg)) GT.dat (fun ((v86_0,v86_1):Int×(TL T_EMsg))=>[(110,.int .i64 v86_0)]) (fun ((v86_0,v86_1):Int×(TL T_EMsg))=>[blk bk10 [(TL.hdr X85),(TL.hdr v86_1)] 29,treeH v86_1,elsT ((TL.nil T_EMsg 0).els.drop (v86_0.toNat))]) [(2,_),(4,_),(10,_),(108,_),(109,_)] [blk bk2 _ _,blk bk4 _ _,treeH X85,rowH (TL.nil T_EMsg 0)] (0,y81x0_2) hp sb ms ?_
          clear hp
          rintro ⟨v86_0,v86_1⟩ x86 hp hx86
          replace hp:=dd hp
          refine kq [2,4,10,108,109,110] ?_
          refine s5 ?_
          refine kp [2,4,10,108,109,110,111] ?_
          refine W_cond rfl (fun q87=>?_) (fun q87=>?_)
          ·replace hp:=cond_t q87 hp
           refine s5 ?_
           have ho:=hp;clear hp;obtain ⟨u88,hy88,hp⟩:=idx_bind (X:=(TL.nil T_EMsg 0)) ho;clear ho
           obtain ⟨u88_1,u88_2,u88_3,⟨u88_4,u88_5⟩,u88_6,⟨u88_7,u88_8,u88_9,u88_10,u88_11,u88_12,u88_13,u88_14⟩,u88_15,u88_16,u88_17,u88_18,u88_19⟩:=u88
           refine L_idxR (X:=(TL.nil T_EMsg 0)) rfl rfl rfl el27.h mm hy88 ?_
           refine L_conv (M':=treeH (u88_1,u88_2,u88_3,(u88_4,u88_5),u88_6,(u88_7,u88_8,u88_9,u88_10,u88_11,u88_12,u88_13,u88_14),u88_15,u88_16,u88_17,u88_18,u88_19)::elsT ((TL.nil T_EMsg 0).els.drop (v86_0.toNat+1))::_) (fun w h=>els_next hy88.2 pk h) ?_
           refine xL ((u88_1,u88_2,u88_3,(u88_4,u88_5),u88_6,(u88_7,u88_8,u88_9,u88_10,u88_11,u88_12,u88_13,u88_14),u88_15,u88_16,u88_17,u88_18,u88_19):T_EMsg) ?_
           refine L_loadW rfl rfl (RdC.row (X:=(TL.nil T_EMsg 0)) mm hy88.2) (by exact agg103.h) ?_
           refine al fun bk12=>?_
           refine s7 ?_
           replace hp:=ba hp;obtain ⟨y89,hy89,hp⟩:=hp
           refine L_callX rfl fn65.h rfl (by exact fun w hw=>i_hasMsg_walk w v86_1 (u88_1,u88_2,u88_3,(u88_4,u88_5),u88_6,(u88_7,u88_8,u88_9,u88_10,u88_11,u88_12,u88_13,u88_14),u88_15,u88_16,u88_17,u88_18,u88_19) (RdT.now (RdT.tree mm) hw) (RdT.now (RdT.pair RdT.int (RdT.pair RdT.int (RdT.pair RdT.int (RdT.pair (RdT.pair RdT.int RdT.int) (RdT.pair RdT.int (RdT.pair (RdT.pair RdT.int (RdT.pair RdT.int (RdT.pair RdT.int (RdT.pair RdT.str (RdT.pair RdT.str (RdT.pair RdT.str (RdT.pair RdT.int (RdT.tree mm)))))))) (RdT.pair RdT.int (RdT.pair (RdT.tree mm) (RdT.pair RdT.int (RdT.pair RdT.int RdT.bool)))))))))) hw) _ hy89) ?_
           refine s2 ?_
           refine kp [2,4,10,12,108,109,110,118] ?_
           refine W_cond rfl (fun q90=>?_) (fun q90=>?_)
           ·replace hp:=cond_t q90 hp
            refine s4 ?_
            refine L_buildSlice1 rfl rfl el27.h rfl (by decide) (by decide) rfl (fun bb122=>?_)
            replace hp:=ba hp;obtain ⟨y92,hy92,hp⟩:=hp
            refine jL ((u88_1,u88_2,u88_3,(u88_4,u88_5),u88_6,(u88_7,u88_8,u88_9,u88_10,u88_11,u88_12,u88_13,u88_14),u88_15,u88_16,u88_17,u88_18,u88_19):T_EMsg) ?_
            refine L_app1m (X:=v86_1) ((u88_1,u88_2,u88_3,(u88_4,u88_5),u88_6,(u88_7,u88_8,u88_9,u88_10,u88_11,u88_12,u88_13,u88_14),u88_15,u88_16,u88_17,u88_18,u88_19):T_EMsg) rfl rfl rfl el27.h rfl rfl pk mm pk hy92 (by decide) (fun X91 hdX91 hmX91=>?_)
            subst hdX91
            refine s7 ?_
            exact ⟨(IntKind.wrap .i64 (v86_0+1),X91),sb,⟨_,fun w h=>(els_step hy88 mm pk h),ms⟩,some_eq hp⟩
           ·replace hp:=cond_f q90 hp
            refine s5 ?_
            exact ⟨(IntKind.wrap .i64 (v86_0+1),v86_1),sb,⟨_,fun w h=>(els_step hy88 mm pk h),ms⟩,some_eq hp⟩
          ·replace hp:=cond_f q87 hp
           refine W_exit ?_
           replace hp:=map_any hp;obtain ⟨a93,hp,z_93⟩:=hp
           obtain rfl:=hx86 _ z_93
           refine s8 ?_
           refine kp [2,4,10,129] ?_
           refine W_cond rfl (fun q94=>?_) (fun q94=>?_)
           ·replace hp:=cond_t q94 hp
            refine s3 ?_
            replace hp:=ba hp;obtain ⟨y95,hy95,hp⟩:=hp
            refine L_callR rfl fn67.h rfl (by exact fun w hw=>i_copyENet_walk w (a0_1,a0_2) (RdT.now (RdT.pair (RdT.old h0.1) (RdT.old h0.2)) hw) _ hy95) ?_
            rintro _ _ ⟨⟨y95x0_1,y95x0_2⟩,rfl,rfl,rfl⟩
            refine sc ?_
            replace hp:=dd hp
            refine xL ((y95x0_1,y95x0_2):T_ENet) ?_
            refine s3 ?_
            obtain rfl:=sj hp
            refine jW ((y95x0_1,y95x0_2):T_ENet) ?_
            refine s1 ?_
            refine res2 rfl (ResOK.cell rfl mm (by exact agg29.h)) (ResOK.tmp rfl) ⟨(y95x0_1,y95x0_2),false,rfl,rfl,rfl⟩ ms
           ·replace hp:=cond_f q94 hp
            refine s7 ?_
            obtain rfl:=sj hp
            refine jW ((X85,v86_1):T_ENet) ?_
            refine s1 ?_
            refine res2 rfl (ResOK.cell rfl mm (by exact agg29.h)) (ResOK.tmp rfl) ⟨(X85,v86_1),true,rfl,rfl,rfl⟩ ms
        ·replace hp:=cond_f q79 hp
         refine s4 ?_
         replace hp:=ba hp;obtain ⟨y96,hy96,hp⟩:=hp
         refine L_callR rfl fn67.h rfl (by exact fun w hw=>i_copyENet_walk w (a0_1,a0_2) (RdT.now (RdT.pair (RdT.old h0.1) (RdT.old h0.2)) hw) _ hy96) ?_
         rintro _ _ ⟨⟨y96x0_1,y96x0_2⟩,rfl,rfl,rfl⟩
         refine sc ?_
         replace hp:=dd hp
         refine xL ((y96x0_1,y96x0_2):T_ENet) ?_
         refine al fun bk10=>?_
         refine s8 ?_
         refine kp [2,4,6,7,8,10,101] ?_
         refine W_condT rfl ?_
         refine s6 ?_
         obtain rfl:=sj hp
         refine jW ((y96x0_1,y96x0_2):T_ENet) ?_
         refine s1 ?_
         refine res2 rfl (ResOK.cell rfl mm (by exact agg29.h)) (ResOK.tmp rfl) ⟨(y96x0_1,y96x0_2),false,rfl,rfl,rfl⟩ ms
 ·replace hp:=cond_f q1 hp
  refine s5 ?_
  replace hp:=ba hp;obtain ⟨y98,hy98,hp⟩:=hp
  refine L_callX rfl fn62.h rfl (by exact fun w hw=>i_isRep_walk w a1_2  _ hy98) ?_
  refine s2 ?_
  refine kp [2,3,4,6,37] ?_
  refine W_cond rfl (fun q99=>?_) (fun q99=>?_)
  ·replace hp:=cond_t q99 hp
   refine s3 ?_
   replace hp:=ba hp;obtain ⟨y100,hy100,hp⟩:=hp
   refine L_callR rfl fn67.h rfl (by exact fun w hw=>i_copyENet_walk w (a0_1,a0_2) (RdT.now (RdT.pair (RdT.old h0.1) (RdT.old h0.2)) hw) _ hy100) ?_
   rintro _ _ ⟨⟨y100x0_1,y100x0_2⟩,rfl,rfl,rfl⟩
   refine sc ?_
   replace hp:=dd hp
   refine xL ((y100x0_1,y100x0_2):T_ENet) ?_
   refine s3 ?_
   obtain rfl:=sj hp
   refine jW ((y100x0_1,y100x0_2):T_ENet) ?_
   refine s1 ?_
   refine res2 rfl (ResOK.cell rfl mm (by exact agg29.h)) (ResOK.tmp rfl) ⟨(y100x0_1,y100x0_2),false,rfl,rfl,rfl⟩ ms
  ·replace hp:=cond_f q99 hp
   refine s6 ?_
   replace hp:=idx_bind hp;obtain ⟨⟨u101_1,u101_2,u101_3,u101_4⟩,hy101,hp⟩:=hp
   refine L_idxA (X:=a0_1) rfl rfl rfl el26.h (RdT.old h0.1) hy101 ?_
   refine L_loadW rfl rfl (RdT.at (RdT.old h0.1) (hy101).2) (by exact agg44.h) ?_
   refine al fun bk7=>?_
   refine s4 ?_
   refine L_assign (v:=(TL.hdr (TL.nil T_EMsg 0))) rfl rfl ?_
   refine s17 ?_
   refine kp [2,3,4,6,7,8,9,46,47] ?_
   refine W_cond rfl (fun q102=>?_) (fun q102=>?_)
   ·replace hp:=cond_t q102 hp
    refine s3 ?_
    refine L_loadW rfl rfl (RdC.seg (RdC.blk mm) 5 8 rfl) (by exact agg38.h) ?_
    replace hp:=ba hp;obtain ⟨y103,hy103,hp⟩:=hp
    refine L_callR rfl fn68.h rfl (by exact fun w hw=>i_ENodeOffer_walk w (u101_1,u101_2,u101_3,u101_4) (a1_6,a1_7,a1_8,a1_9,a1_10,a1_11,a1_12,a1_13) (RdT.now (RdT.pair RdT.int (RdT.pair RdT.int (RdT.pair (RdT.fst (RdT.snd (RdT.snd (RdT.of (RdT.old h0.1) (hy101).2)))) (RdT.snd (RdT.snd (RdT.snd (RdT.of (RdT.old h0.1) (hy101).2))))))) hw) (RdT.now (RdT.pair RdT.int (RdT.pair RdT.int (RdT.pair RdT.int (RdT.pair RdT.str (RdT.pair RdT.str (RdT.pair RdT.str (RdT.pair RdT.int (RdT.old h1.2.2.2.2.2.2.2.2.2.2.2)))))))) hw) _ hy103) ?_
    rintro _ _ ⟨⟨y103x0_1,y103x0_2,y103x0_3,y103x0_4⟩,y103x1,y103x2,rfl,rfl,rfl⟩
    refine sc ?_
    replace hp:=dd hp
    refine xL ((y103x0_1,y103x0_2,y103x0_3,y103x0_4):T_ENode) ?_
    refine s11 ?_
    replace hp:=ba hp;obtain ⟨y104,hy104,hp⟩:=hp
    refine L_callR rfl fn67.h rfl (by exact fun w hw=>i_copyENet_walk w (a0_1,a0_2) (RdT.now (RdT.pair (RdT.old h0.1) (RdT.old h0.2)) hw) _ hy104) ?_
    rintro _ _ ⟨⟨y104x0_1,y104x0_2⟩,rfl,rfl,rfl⟩
    refine sc ?_
    replace hp:=dd hp
    refine xL ((y104x0_1,y104x0_2):T_ENet) ?_
    refine al fun bk10=>?_
    refine s8 ?_
    refine kp [2,4,6,7,8,10,101] ?_
    refine W_cond rfl (fun q105=>?_) (fun q105=>?_)
    ·replace hp:=cond_t q105 hp
     refine s6 ?_
     obtain rfl:=sj hp
     refine jW ((y104x0_1,y104x0_2):T_ENet) ?_
     refine s1 ?_
     refine res2 rfl (ResOK.cell rfl mm (by exact agg29.h)) (ResOK.tmp rfl) ⟨(y104x0_1,y104x0_2),false,rfl,rfl,rfl⟩ ms
    ·replace hp:=cond_f q105 hp
     refine s7 ?_
     replace hp:=idx_bind hp;obtain ⟨⟨u106_1,u106_2,u106_3,u106_4⟩,hy106,hp⟩:=hp
     refine L_idxA (X:=y104x0_1) rfl rfl rfl el26.h (RdT.tree mm) hy106 ?_
     refine L_conv (M':=treeH (u106_1,u106_2,u106_3,u106_4)::holeH y104x0_1 (a1_2.toNat) (GT.cells (u106_1,u106_2,u106_3,u106_4))::_) (fun w h=>hole_open hy106.2 pk h) ?_
     refine xL ((u106_1,u106_2,u106_3,u106_4):T_ENode) ?_
     refine L_stH (X:=y104x0_1) (i:=a1_2.toNat) (sz:=4) (fo:=0) (n:=4) rfl rfl pk rfl (.inl agg44.h) rfl (allOne rfl) (Nat.le_of_ble_eq_true rfl) ?_
     refine jL ((y103x0_1,y103x0_2,y103x0_3,y103x0_4):T_ENode) ?_
     replace hp:=ba hp;obtain ⟨y107,hy107,hp⟩:=hp
     refine L_close (X:=y104x0_1) ((y103x0_1,y103x0_2,y103x0_3,y103x0_4):T_ENode) rfl pk pk hy107 (fun X108 hdX108 hhX108=>?_)
     subst hdX108
     try rw [← hhX108]
     try rw [← g_of_hdr hhX108]
     try rw [← o_of_hdr hhX108]
     refine s9 ?_
     refine W_conv (M':=rowH y103x1::elsT (y103x1.els.drop 0)::_) (fun w h=>els_start pk h) ?_
     refine W_while (σ:=Int×(TL T_EMsg)) GT.dat (fun ((v109_0,v109_1):Int×(TL T_EMsg))=>[(110,.int .i64 v109_0)]) (fun ((v109_0,v109_1):Int×(TL T_EMsg))=>[blk bk10 [(TL.hdr X108),(TL.hdr v109_1)] 29,treeH v109_1,elsT (y103x1.els.drop (v109_0.toNat))]) [(2,_),(4,_),(10,_),(108,_),(109,_)] [blk bk2 _ _,blk bk4 _ _,treeH X108,rowH y103x1] (0,y104x0_2) hp sb ms ?_
     clear hp
     rintro ⟨v109_0,v109_1⟩ x109 hp hx109
     replace hp:=dd hp
     refine kq [2,4,10,108,109,110] ?_
     refine s5 ?_
     refine kp [2,4,10,108,109,110,111] ?_
     refine W_cond rfl (fun q110=>?_) (fun q110=>?_)
     ·replace hp:=cond_t q110 hp
      refine s5 ?_
      replace hp:=idx_bind hp;obtain ⟨⟨u111_1,u111_2,u111_3,⟨u111_4,u111_5⟩,u111_6,⟨u111_7,u111_8,u111_9,u111_10,u111_11,u111_12,u111_13,u111_14⟩,u111_15,u111_16,u111_17,u111_18,u111_19⟩,hy111,hp⟩:=hp
      refine L_idxR (X:=y103x1) rfl rfl rfl el27.h mm hy111 ?_
      refine L_conv (M':=treeH (u111_1,u111_2,u111_3,(u111_4,u111_5),u111_6,(u111_7,u111_8,u111_9,u111_10,u111_11,u111_12,u111_13,u111_14),u111_15,u111_16,u111_17,u111_18,u111_19)::elsT (y103x1.els.drop (v109_0.toNat+1))::_) (fun w h=>els_next hy111.2 pk h) ?_
      refine xL ((u111_1,u111_2,u111_3,(u111_4,u111_5),u111_6,(u111_7,u111_8,u111_9,u111_10,u111_11,u111_12,u111_13,u111_14),u111_15,u111_16,u111_17,u111_18,u111_19):T_EMsg) ?_
      refine L_loadW rfl rfl (RdC.row (X:=y103x1) mm hy111.2) (by exact agg103.h) ?_
      refine al fun bk12=>?_
      refine s7 ?_
      replace hp:=ba hp;obtain ⟨y112,hy112,hp⟩:=hp
      refine L_callX rfl fn65.h rfl (by exact fun w hw=>i_hasMsg_walk w v109_1 (u111_1,u111_2,u111_3,(u111_4,u111_5),u111_6,(u111_7,u111_8,u111_9,u111_10,u111_11,u111_12,u111_13,u111_14),u111_15,u111_16,u111_17,u111_18,u111_19) (RdT.now (RdT.tree mm) hw) (RdT.now (RdT.pair RdT.int (RdT.pair RdT.int (RdT.pair RdT.int (RdT.pair (RdT.pair RdT.int RdT.int) (RdT.pair RdT.int (RdT.pair (RdT.pair RdT.int (RdT.pair RdT.int (RdT.pair RdT.int (RdT.pair RdT.str (RdT.pair RdT.str (RdT.pair RdT.str (RdT.pair RdT.int (RdT.tree mm)))))))) (RdT.pair RdT.int (RdT.pair (RdT.tree mm) (RdT.pair RdT.int (RdT.pair RdT.int RdT.bool)))))))))) hw) _ hy112) ?_
      refine s2 ?_
      refine kp [2,4,10,12,108,109,110,118] ?_
      refine W_cond rfl (fun q113=>?_) (fun q113=>?_)
      ·replace hp:=cond_t q113 hp
       refine s4 ?_
       refine L_buildSlice1 rfl rfl el27.h rfl (by decide) (by decide) rfl (fun bb122=>?_)
       replace hp:=ba hp;obtain ⟨y115,hy115,hp⟩:=hp
       refine jL ((u111_1,u111_2,u111_3,(u111_4,u111_5),u111_6,(u111_7,u111_8,u111_9,u111_10,u111_11,u111_12,u111_13,u111_14),u111_15,u111_16,u111_17,u111_18,u111_19):T_EMsg) ?_
       refine L_app1m (X:=v109_1) ((u111_1,u111_2,u111_3,(u111_4,u111_5),u111_6,(u111_7,u111_8,u111_9,u111_10,u111_11,u111_12,u111_13,u111_14),u111_15,u111_16,u111_17,u111_18,u111_19):T_EMsg) rfl rfl rfl el27.h rfl rfl pk mm pk hy115 (by decide) (fun X114 hdX114 hmX114=>?_)
       subst hdX114
       refine s7 ?_
       exact ⟨(IntKind.wrap .i64 (v109_0+1),X114),sb,⟨_,fun w h=>(els_step hy111 mm pk h),ms⟩,some_eq hp⟩
      ·replace hp:=cond_f q113 hp
       refine s5 ?_
       exact ⟨(IntKind.wrap .i64 (v109_0+1),v109_1),sb,⟨_,fun w h=>(els_step hy111 mm pk h),ms⟩,some_eq hp⟩
     ·replace hp:=cond_f q110 hp
      refine W_exit ?_
      replace hp:=map_any hp;obtain ⟨a116,hp,z_116⟩:=hp
      obtain rfl:=hx109 _ z_116
      refine s8 ?_
      refine kp [2,4,10,129] ?_
      refine W_cond rfl (fun q117=>?_) (fun q117=>?_)
      ·replace hp:=cond_t q117 hp
       refine s3 ?_
       replace hp:=ba hp;obtain ⟨y118,hy118,hp⟩:=hp
       refine L_callR rfl fn67.h rfl (by exact fun w hw=>i_copyENet_walk w (a0_1,a0_2) (RdT.now (RdT.pair (RdT.old h0.1) (RdT.old h0.2)) hw) _ hy118) ?_
       rintro _ _ ⟨⟨y118x0_1,y118x0_2⟩,rfl,rfl,rfl⟩
       refine sc ?_
       replace hp:=dd hp
       refine xL ((y118x0_1,y118x0_2):T_ENet) ?_
       refine s3 ?_
       obtain rfl:=sj hp
       refine jW ((y118x0_1,y118x0_2):T_ENet) ?_
       refine s1 ?_
       refine res2 rfl (ResOK.cell rfl mm (by exact agg29.h)) (ResOK.tmp rfl) ⟨(y118x0_1,y118x0_2),false,rfl,rfl,rfl⟩ ms
      ·replace hp:=cond_f q117 hp
       refine s7 ?_
       obtain rfl:=sj hp
       refine jW ((X108,v109_1):T_ENet) ?_
       refine s1 ?_
       refine res2 rfl (ResOK.cell rfl mm (by exact agg29.h)) (ResOK.tmp rfl) ⟨(X108,v109_1),true,rfl,rfl,rfl⟩ ms
   ·replace hp:=cond_f q102 hp
    refine s5 ?_
    refine kp [2,3,4,6,7,8,9,46,57] ?_
    refine W_cond rfl (fun q119=>?_) (fun q119=>?_)
    ·replace hp:=cond_t q119 hp
     refine W_AG [] 12 mix ?_
     refine AG_A [blk bk7 [.int .i64 u101_1,.int .i64 u101_2,(TL.hdr u101_3),(TL.hdr u101_4)] 44] trivial ?_
     refine AG_take 0 [] rfl (PU_loadW rfl rfl (RdC.blk mm) (by exact agg44.h)) (by kernel_rfl) (by kernel_rfl) (by kernel_rfl) (by kernel_rfl) rfl (by kernel_rfl) ⟨mm,trivial⟩ ?_
     refine AG_take 1 [] rfl (PU_fieldAddr rfl rfl fld29_1.h) (by kernel_rfl) (by kernel_rfl) (by kernel_rfl) (by kernel_rfl) rfl (by kernel_rfl) ⟨mm,trivial⟩ ?_
     refine AG_A [blk bk2 [(TL.hdr a0_1),(TL.hdr a0_2)] 29,blk bk7 [.int .i64 u101_1,.int .i64 u101_2,(TL.hdr u101_3),(TL.hdr u101_4)] 44] ⟨mm,trivial⟩ ?_
     refine AG_take 2 [] rfl (PU_load rfl rfl (RdC.blk mm) one27.h rfl) (by kernel_rfl) (by kernel_rfl) (by kernel_rfl) (by kernel_rfl) rfl (by kernel_rfl) ⟨mm,⟨mm,trivial⟩⟩ ?_
     refine AG_take 3 [] rfl (PU_fieldAddr rfl rfl fld40_2.h) (by kernel_rfl) (by kernel_rfl) (by kernel_rfl) (by kernel_rfl) rfl (by kernel_rfl) ⟨mm,⟨mm,trivial⟩⟩ ?_
     refine AG_A [blk bk3 [.int .i64 a1_1,.int .i64 a1_2,.int .i64 a1_3,.int .i64 a1_4,.int .i64 a1_5,.int .i64 a1_6,.int .i64 a1_7,.int .i64 a1_8,.string a1_9,.string a1_10,.string a1_11,.int .i64 a1_12,(TL.hdr a1_13)] 40,blk bk2 [(TL.hdr a0_1),(TL.hdr a0_2)] 29,blk bk7 [.int .i64 u101_1,.int .i64 u101_2,(TL.hdr u101_3),(TL.hdr u101_4)] 44] ⟨mm,⟨mm,trivial⟩⟩ ?_
     refine AG_take 4 [] rfl (PU_load rfl rfl (RdC.blk mm) one3.h rfl) (by kernel_rfl) (by kernel_rfl) (by kernel_rfl) (by kernel_rfl) rfl (by kernel_rfl) ⟨mm,⟨mm,⟨mm,trivial⟩⟩⟩ ?_
     replace hp:=idx_bind hp;obtain ⟨⟨u120_1,u120_2,u120_3,⟨u120_4,u120_5⟩,u120_6,⟨u120_7,u120_8,u120_9,u120_10,u120_11,u120_12,u120_13,u120_14⟩,u120_15,u120_16,u120_17,u120_18,u120_19⟩,hy120,hp⟩:=hp
     refine AG_take 5 [] rfl (PU_idxA (X:=a0_2) rfl rfl rfl el27.h (RdT.old h0.2) hy120) (by kernel_rfl) (by kernel_rfl) (by kernel_rfl) (by kernel_rfl) rfl (by kernel_rfl) ⟨mm,⟨mm,⟨mm,trivial⟩⟩⟩ ?_
     refine AG_take 6 [] rfl (PU_loadW rfl rfl (RdT.at (RdT.old h0.2) (hy120).2) (by exact agg103.h)) (by kernel_rfl) (by kernel_rfl) (by kernel_rfl) (by kernel_rfl) rfl (by kernel_rfl) ⟨mm,⟨mm,⟨mm,trivial⟩⟩⟩ ?_
     refine AG_one 7 rfl rfl (by kernel_rfl) ?_
     replace hp:=ba hp;obtain ⟨y121,hy121,hp⟩:=hp
     refine L_callR rfl fn69.h rfl (by exact fun w hw=>i_ENodeGet_walk w (u101_1,u101_2,u101_3,u101_4) (u120_1,u120_2,u120_3,(u120_4,u120_5),u120_6,(u120_7,u120_8,u120_9,u120_10,u120_11,u120_12,u120_13,u120_14),u120_15,u120_16,u120_17,u120_18,u120_19) (RdT.now (RdT.pair RdT.int (RdT.pair RdT.int (RdT.pair (RdT.fst (RdT.snd (RdT.snd (RdT.of (RdT.old h0.1) (hy101).2)))) (RdT.snd (RdT.snd (RdT.snd (RdT.of (RdT.old h0.1) (hy101).2))))))) hw) (RdT.now (RdT.pair RdT.int (RdT.pair RdT.int (RdT.pair RdT.int (RdT.pair (RdT.pair RdT.int RdT.int) (RdT.pair RdT.int (RdT.pair (RdT.pair RdT.int (RdT.pair RdT.int (RdT.pair RdT.int (RdT.pair RdT.str (RdT.pair RdT.str (RdT.pair RdT.str (RdT.pair RdT.int (RdT.snd (RdT.snd (RdT.snd (RdT.snd (RdT.snd (RdT.snd (RdT.snd (RdT.fst (RdT.snd (RdT.snd (RdT.snd (RdT.snd (RdT.snd (RdT.of (RdT.old h0.2) (hy120).2))))))))))))))))))))) (RdT.pair RdT.int (RdT.pair (RdT.fst (RdT.snd (RdT.snd (RdT.snd (RdT.snd (RdT.snd (RdT.snd (RdT.snd (RdT.of (RdT.old h0.2) (hy120).2))))))))) (RdT.pair RdT.int (RdT.pair RdT.int RdT.bool)))))))))) hw) _ hy121) ?_
     rintro _ _ ⟨⟨y121x0_1,y121x0_2,y121x0_3,y121x0_4⟩,y121x1,y121x2,rfl,rfl,rfl⟩
     refine sc ?_
     replace hp:=dd hp
     refine xL ((y121x0_1,y121x0_2,y121x0_3,y121x0_4):T_ENode) ?_
     refine L_nil ⟨⟨mm,⟨mm,⟨mm,trivial⟩⟩⟩,?_⟩
     refine AG_take 8 [] rfl (PU_move rfl rfl) (by kernel_rfl) (by kernel_rfl) (by kernel_rfl) (by kernel_rfl) rfl (by kernel_rfl) ⟨mm,⟨mm,⟨mm,trivial⟩⟩⟩ ?_
     refine AG_take 9 [] rfl (PU_extract rfl rfl rfl) (by kernel_rfl) (by kernel_rfl) (by kernel_rfl) (by kernel_rfl) rfl (by kernel_rfl) ⟨mm,⟨mm,⟨mm,trivial⟩⟩⟩ ?_
     refine AG_take0 10 rfl (fun _=>PU_extract rfl rfl rfl) (by kernel_rfl) (by kernel_rfl) (by kernel_rfl) rfl ⟨mm,⟨mm,⟨mm,trivial⟩⟩⟩ ?_
     refine AG_take0 11 rfl (fun _=>PU_extract (v:=.bool y121x2) rfl rfl rfl) (by kernel_rfl) (by kernel_rfl) (by kernel_rfl) rfl ⟨mm,⟨mm,⟨mm,trivial⟩⟩⟩ ?_
     refine AG_lastH 12 rfl rfl (by kernel_rfl) (by kernel_rfl) ?_
     refine s2 ?_
     refine AH_one 13 rfl rfl (by kernel_rfl) ?_
     refine s1 ?_
     refine L_nil ⟨trivial,?_⟩
     refine AH_one 14 rfl rfl (by kernel_rfl) ?_
     refine s1 ?_
     refine L_nil ⟨trivial,?_⟩
     refine AH_done (by kernel_rfl) ?_
     refine s3 ?_
     replace hp:=ba hp;obtain ⟨y122,hy122,hp⟩:=hp
     refine L_callR rfl fn67.h rfl (by exact fun w hw=>i_copyENet_walk w (a0_1,a0_2) (RdT.now (RdT.pair (RdT.old h0.1) (RdT.old h0.2)) hw) _ hy122) ?_
     rintro _ _ ⟨⟨y122x0_1,y122x0_2⟩,rfl,rfl,rfl⟩
     refine sc ?_
     replace hp:=dd hp
     refine xL ((y122x0_1,y122x0_2):T_ENet) ?_
     refine al fun bk10=>?_
     refine s8 ?_
     refine kp [2,4,6,7,8,10,101] ?_
     refine W_cond rfl (fun q123=>?_) (fun q123=>?_)
     ·replace hp:=cond_t q123 hp
      refine s6 ?_
      obtain rfl:=sj hp
      refine jW ((y122x0_1,y122x0_2):T_ENet) ?_
      refine s1 ?_
      refine res2 rfl (ResOK.cell rfl mm (by exact agg29.h)) (ResOK.tmp rfl) ⟨(y122x0_1,y122x0_2),false,rfl,rfl,rfl⟩ ms
     ·replace hp:=cond_f q123 hp
      refine s7 ?_
      replace hp:=idx_bind hp;obtain ⟨⟨u124_1,u124_2,u124_3,u124_4⟩,hy124,hp⟩:=hp
      refine L_idxA (X:=y122x0_1) rfl rfl rfl el26.h (RdT.tree mm) hy124 ?_
      refine L_conv (M':=treeH (u124_1,u124_2,u124_3,u124_4)::holeH y122x0_1 (a1_2.toNat) (GT.cells (u124_1,u124_2,u124_3,u124_4))::_) (fun w h=>hole_open hy124.2 pk h) ?_
      refine xL ((u124_1,u124_2,u124_3,u124_4):T_ENode) ?_
      refine L_stH (X:=y122x0_1) (i:=a1_2.toNat) (sz:=4) (fo:=0) (n:=4) rfl rfl pk rfl (.inl agg44.h) rfl (allOne rfl) (Nat.le_of_ble_eq_true rfl) ?_
      refine jL ((y121x0_1,y121x0_2,y121x0_3,y121x0_4):T_ENode) ?_
      replace hp:=ba hp;obtain ⟨y125,hy125,hp⟩:=hp
      refine L_close (X:=y122x0_1) ((y121x0_1,y121x0_2,y121x0_3,y121x0_4):T_ENode) rfl pk pk hy125 (fun X126 hdX126 hhX126=>?_)
      subst hdX126
      try rw [← hhX126]
      try rw [← g_of_hdr hhX126]
      try rw [← o_of_hdr hhX126]
      refine s9 ?_
      refine W_conv (M':=rowH y121x1::elsT (y121x1.els.drop 0)::_) (fun w h=>els_start pk h) ?_
      refine W_while (σ:=Int×(TL T_EMsg)) GT.dat (fun ((v127_0,v127_1):Int×(TL T_EMsg))=>[(110,.int .i64 v127_0)]) (fun ((v127_0,v127_1):Int×(TL T_EMsg))=>[blk bk10 [(TL.hdr X126),(TL.hdr v127_1)] 29,treeH v127_1,elsT (y121x1.els.drop (v127_0.toNat))]) [(2,_),(4,_),(10,_),(108,_),(109,_)] [blk bk2 _ _,blk bk4 _ _,treeH X126,rowH y121x1] (0,y122x0_2) hp sb ms ?_
      clear hp
      rintro ⟨v127_0,v127_1⟩ x127 hp hx127
      replace hp:=dd hp
      refine kq [2,4,10,108,109,110] ?_
      refine s5 ?_
      refine kp [2,4,10,108,109,110,111] ?_
      refine W_cond rfl (fun q128=>?_) (fun q128=>?_)
      ·replace hp:=cond_t q128 hp
       refine s5 ?_
       replace hp:=idx_bind hp;obtain ⟨⟨u129_1,u129_2,u129_3,⟨u129_4,u129_5⟩,u129_6,⟨u129_7,u129_8,u129_9,u129_10,u129_11,u129_12,u129_13,u129_14⟩,u129_15,u129_16,u129_17,u129_18,u129_19⟩,hy129,hp⟩:=hp
       refine L_idxR (X:=y121x1) rfl rfl rfl el27.h mm hy129 ?_
       refine L_conv (M':=treeH (u129_1,u129_2,u129_3,(u129_4,u129_5),u129_6,(u129_7,u129_8,u129_9,u129_10,u129_11,u129_12,u129_13,u129_14),u129_15,u129_16,u129_17,u129_18,u129_19)::elsT (y121x1.els.drop (v127_0.toNat+1))::_) (fun w h=>els_next hy129.2 pk h) ?_
       refine xL ((u129_1,u129_2,u129_3,(u129_4,u129_5),u129_6,(u129_7,u129_8,u129_9,u129_10,u129_11,u129_12,u129_13,u129_14),u129_15,u129_16,u129_17,u129_18,u129_19):T_EMsg) ?_
       refine L_loadW rfl rfl (RdC.row (X:=y121x1) mm hy129.2) (by exact agg103.h) ?_
       refine al fun bk12=>?_
       refine s7 ?_
       replace hp:=ba hp;obtain ⟨y130,hy130,hp⟩:=hp
       refine L_callX rfl fn65.h rfl (by exact fun w hw=>i_hasMsg_walk w v127_1 (u129_1,u129_2,u129_3,(u129_4,u129_5),u129_6,(u129_7,u129_8,u129_9,u129_10,u129_11,u129_12,u129_13,u129_14),u129_15,u129_16,u129_17,u129_18,u129_19) (RdT.now (RdT.tree mm) hw) (RdT.now (RdT.pair RdT.int (RdT.pair RdT.int (RdT.pair RdT.int (RdT.pair (RdT.pair RdT.int RdT.int) (RdT.pair RdT.int (RdT.pair (RdT.pair RdT.int (RdT.pair RdT.int (RdT.pair RdT.int (RdT.pair RdT.str (RdT.pair RdT.str (RdT.pair RdT.str (RdT.pair RdT.int (RdT.tree mm)))))))) (RdT.pair RdT.int (RdT.pair (RdT.tree mm) (RdT.pair RdT.int (RdT.pair RdT.int RdT.bool)))))))))) hw) _ hy130) ?_
       refine s2 ?_
       refine kp [2,4,10,12,108,109,110,118] ?_
       refine W_cond rfl (fun q131=>?_) (fun q131=>?_)
       ·replace hp:=cond_t q131 hp
        refine s4 ?_
        refine L_buildSlice1 rfl rfl el27.h rfl (by decide) (by decide) rfl (fun bb122=>?_)
        replace hp:=ba hp;obtain ⟨y133,hy133,hp⟩:=hp
        refine jL ((u129_1,u129_2,u129_3,(u129_4,u129_5),u129_6,(u129_7,u129_8,u129_9,u129_10,u129_11,u129_12,u129_13,u129_14),u129_15,u129_16,u129_17,u129_18,u129_19):T_EMsg) ?_
        refine L_app1m (X:=v127_1) ((u129_1,u129_2,u129_3,(u129_4,u129_5),u129_6,(u129_7,u129_8,u129_9,u129_10,u129_11,u129_12,u129_13,u129_14),u129_15,u129_16,u129_17,u129_18,u129_19):T_EMsg) rfl rfl rfl el27.h rfl rfl pk mm pk hy133 (by decide) (fun X132 hdX132 hmX132=>?_)
        subst hdX132
        refine s7 ?_
        exact ⟨(IntKind.wrap .i64 (v127_0+1),X132),sb,⟨_,fun w h=>(els_step hy129 mm pk h),ms⟩,some_eq hp⟩
       ·replace hp:=cond_f q131 hp
        refine s5 ?_
        exact ⟨(IntKind.wrap .i64 (v127_0+1),v127_1),sb,⟨_,fun w h=>(els_step hy129 mm pk h),ms⟩,some_eq hp⟩
      ·replace hp:=cond_f q128 hp
       refine W_exit ?_
       replace hp:=map_any hp;obtain ⟨a134,hp,z_134⟩:=hp
       obtain rfl:=hx127 _ z_134
       refine s8 ?_
       refine kp [2,4,10,129] ?_
       refine W_cond rfl (fun q135=>?_) (fun q135=>?_)
       ·replace hp:=cond_t q135 hp
        refine s3 ?_
        replace hp:=ba hp;obtain ⟨y136,hy136,hp⟩:=hp
        refine L_callR rfl fn67.h rfl (by exact fun w hw=>i_copyENet_walk w (a0_1,a0_2) (RdT.now (RdT.pair (RdT.old h0.1) (RdT.old h0.2)) hw) _ hy136) ?_
        rintro _ _ ⟨⟨y136x0_1,y136x0_2⟩,rfl,rfl,rfl⟩
        refine sc ?_
        replace hp:=dd hp
        refine xL ((y136x0_1,y136x0_2):T_ENet) ?_
        refine s3 ?_
        obtain rfl:=sj hp
        refine jW ((y136x0_1,y136x0_2):T_ENet) ?_
        refine s1 ?_
        refine res2 rfl (ResOK.cell rfl mm (by exact agg29.h)) (ResOK.tmp rfl) ⟨(y136x0_1,y136x0_2),false,rfl,rfl,rfl⟩ ms
       ·replace hp:=cond_f q135 hp
        refine s7 ?_
        obtain rfl:=sj hp
        refine jW ((X126,v127_1):T_ENet) ?_
        refine s1 ?_
        refine res2 rfl (ResOK.cell rfl mm (by exact agg29.h)) (ResOK.tmp rfl) ⟨(X126,v127_1),true,rfl,rfl,rfl⟩ ms
    ·replace hp:=cond_f q119 hp
     refine s5 ?_
     refine kp [2,3,4,6,7,8,9,46,71] ?_
     refine W_cond rfl (fun q137=>?_) (fun q137=>?_)
     ·replace hp:=cond_t q137 hp
      refine s3 ?_
      refine L_loadW rfl rfl (RdC.seg (RdC.blk mm) 3 2 rfl) (by exact agg35.h) ?_
      replace hp:=ba hp;obtain ⟨y138,hy138,hp⟩:=hp
      refine L_callR rfl fn70.h rfl (by exact fun w hw=>i_ENodeSlow_walk w (u101_1,u101_2,u101_3,u101_4) (a1_4,a1_5) (RdT.now (RdT.pair RdT.int (RdT.pair RdT.int (RdT.pair (RdT.fst (RdT.snd (RdT.snd (RdT.of (RdT.old h0.1) (hy101).2)))) (RdT.snd (RdT.snd (RdT.snd (RdT.of (RdT.old h0.1) (hy101).2))))))) hw) (RdT.now (RdT.pair RdT.int RdT.int) hw) _ hy138) ?_
      rintro _ _ ⟨⟨y138x0_1,y138x0_2,y138x0_3,y138x0_4⟩,y138x1,y138x2,rfl,rfl,rfl⟩
      refine sc ?_
      replace hp:=dd hp
      refine xL ((y138x0_1,y138x0_2,y138x0_3,y138x0_4):T_ENode) ?_
      refine s11 ?_
      replace hp:=ba hp;obtain ⟨y139,hy139,hp⟩:=hp
      refine L_callR rfl fn67.h rfl (by exact fun w hw=>i_copyENet_walk w (a0_1,a0_2) (RdT.now (RdT.pair (RdT.old h0.1) (RdT.old h0.2)) hw) _ hy139) ?_
      rintro _ _ ⟨⟨y139x0_1,y139x0_2⟩,rfl,rfl,rfl⟩
      refine sc ?_
      replace hp:=dd hp
      refine xL ((y139x0_1,y139x0_2):T_ENet) ?_
      refine al fun bk10=>?_
      refine s8 ?_
      refine kp [2,4,6,7,8,10,101] ?_
      refine W_cond rfl (fun q140=>?_) (fun q140=>?_)
      ·replace hp:=cond_t q140 hp
       refine s6 ?_
       obtain rfl:=sj hp
       refine jW ((y139x0_1,y139x0_2):T_ENet) ?_
       refine s1 ?_
       refine res2 rfl (ResOK.cell rfl mm (by exact agg29.h)) (ResOK.tmp rfl) ⟨(y139x0_1,y139x0_2),false,rfl,rfl,rfl⟩ ms
      ·replace hp:=cond_f q140 hp
       refine s7 ?_
       replace hp:=idx_bind hp;obtain ⟨⟨u141_1,u141_2,u141_3,u141_4⟩,hy141,hp⟩:=hp
       refine L_idxA (X:=y139x0_1) rfl rfl rfl el26.h (RdT.tree mm) hy141 ?_
       refine L_conv (M':=treeH (u141_1,u141_2,u141_3,u141_4)::holeH y139x0_1 (a1_2.toNat) (GT.cells (u141_1,u141_2,u141_3,u141_4))::_) (fun w h=>hole_open hy141.2 pk h) ?_
       refine xL ((u141_1,u141_2,u141_3,u141_4):T_ENode) ?_
       refine L_stH (X:=y139x0_1) (i:=a1_2.toNat) (sz:=4) (fo:=0) (n:=4) rfl rfl pk rfl (.inl agg44.h) rfl (allOne rfl) (Nat.le_of_ble_eq_true rfl) ?_
       refine jL ((y138x0_1,y138x0_2,y138x0_3,y138x0_4):T_ENode) ?_
       replace hp:=ba hp;obtain ⟨y142,hy142,hp⟩:=hp
       refine L_close (X:=y139x0_1) ((y138x0_1,y138x0_2,y138x0_3,y138x0_4):T_ENode) rfl pk pk hy142 (fun X143 hdX143 hhX143=>?_)
       subst hdX143
       try rw [← hhX143]
       try rw [← g_of_hdr hhX143]
       try rw [← o_of_hdr hhX143]
       refine s9 ?_
       refine W_conv (M':=rowH y138x1::elsT (y138x1.els.drop 0)::_) (fun w h=>els_start pk h) ?_
       refine W_while (σ:=Int×(TL T_EMsg)) GT.dat (fun ((v144_0,v144_1):Int×(TL T_EMsg))=>[(110,.int .i64 v144_0)]) (fun ((v144_0,v144_1):Int×(TL T_EMsg))=>[blk bk10 [(TL.hdr X143),(TL.hdr v144_1)] 29,treeH v144_1,elsT (y138x1.els.drop (v144_0.toNat))]) [(2,_),(4,_),(10,_),(108,_),(109,_)] [blk bk2 _ _,blk bk4 _ _,treeH X143,rowH y138x1] (0,y139x0_2) hp sb ms ?_
       clear hp
       rintro ⟨v144_0,v144_1⟩ x144 hp hx144
       replace hp:=dd hp
       refine kq [2,4,10,108,109,110] ?_
       refine s5 ?_
       refine kp [2,4,10,108,109,110,111] ?_
       refine W_cond rfl (fun q145=>?_) (fun q145=>?_)
       ·replace hp:=cond_t q145 hp
        refine s5 ?_
        replace hp:=idx_bind hp;obtain ⟨⟨u146_1,u146_2,u146_3,⟨u146_4,u146_5⟩,u146_6,⟨u146_7,u146_8,u146_9,u146_10,u146_11,u146_12,u146_13,u146_14⟩,u146_15,u146_16,u146_17,u146_18,u146_19⟩,hy146,hp⟩:=hp
        refine L_idxR (X:=y138x1) rfl rfl rfl el27.h mm hy146 ?_
        refine L_conv (M':=treeH (u146_1,u146_2,u146_3,(u146_4,u146_5),u146_6,(u146_7,u146_8,u146_9,u146_10,u146_11,u146_12,u146_13,u146_14),u146_15,u146_16,u146_17,u146_18,u146_19)::elsT (y138x1.els.drop (v144_0.toNat+1))::_) (fun w h=>els_next hy146.2 pk h) ?_
        refine xL ((u146_1,u146_2,u146_3,(u146_4,u146_5),u146_6,(u146_7,u146_8,u146_9,u146_10,u146_11,u146_12,u146_13,u146_14),u146_15,u146_16,u146_17,u146_18,u146_19):T_EMsg) ?_
        refine L_loadW rfl rfl (RdC.row (X:=y138x1) mm hy146.2) (by exact agg103.h) ?_
        refine al fun bk12=>?_
        refine s7 ?_
        replace hp:=ba hp;obtain ⟨y147,hy147,hp⟩:=hp
        refine L_callX rfl fn65.h rfl (by exact fun w hw=>i_hasMsg_walk w v144_1 (u146_1,u146_2,u146_3,(u146_4,u146_5),u146_6,(u146_7,u146_8,u146_9,u146_10,u146_11,u146_12,u146_13,u146_14),u146_15,u146_16,u146_17,u146_18,u146_19) (RdT.now (RdT.tree mm) hw) (RdT.now (RdT.pair RdT.int (RdT.pair RdT.int (RdT.pair RdT.int (RdT.pair (RdT.pair RdT.int RdT.int) (RdT.pair RdT.int (RdT.pair (RdT.pair RdT.int (RdT.pair RdT.int (RdT.pair RdT.int (RdT.pair RdT.str (RdT.pair RdT.str (RdT.pair RdT.str (RdT.pair RdT.int (RdT.tree mm)))))))) (RdT.pair RdT.int (RdT.pair (RdT.tree mm) (RdT.pair RdT.int (RdT.pair RdT.int RdT.bool)))))))))) hw) _ hy147) ?_
        refine s2 ?_
        refine kp [2,4,10,12,108,109,110,118] ?_
        refine W_cond rfl (fun q148=>?_) (fun q148=>?_)
        ·replace hp:=cond_t q148 hp
         refine s4 ?_
         refine L_buildSlice1 rfl rfl el27.h rfl (by decide) (by decide) rfl (fun bb122=>?_)
         replace hp:=ba hp;obtain ⟨y150,hy150,hp⟩:=hp
         refine jL ((u146_1,u146_2,u146_3,(u146_4,u146_5),u146_6,(u146_7,u146_8,u146_9,u146_10,u146_11,u146_12,u146_13,u146_14),u146_15,u146_16,u146_17,u146_18,u146_19):T_EMsg) ?_
         refine L_app1m (X:=v144_1) ((u146_1,u146_2,u146_3,(u146_4,u146_5),u146_6,(u146_7,u146_8,u146_9,u146_10,u146_11,u146_12,u146_13,u146_14),u146_15,u146_16,u146_17,u146_18,u146_19):T_EMsg) rfl rfl rfl el27.h rfl rfl pk mm pk hy150 (by decide) (fun X149 hdX149 hmX149=>?_)
         subst hdX149
         refine s7 ?_
         exact ⟨(IntKind.wrap .i64 (v144_0+1),X149),sb,⟨_,fun w h=>(els_step hy146 mm pk h),ms⟩,some_eq hp⟩
        ·replace hp:=cond_f q148 hp
         refine s5 ?_
         exact ⟨(IntKind.wrap .i64 (v144_0+1),v144_1),sb,⟨_,fun w h=>(els_step hy146 mm pk h),ms⟩,some_eq hp⟩
       ·replace hp:=cond_f q145 hp
        refine W_exit ?_
        replace hp:=map_any hp;obtain ⟨a151,hp,z_151⟩:=hp
        obtain rfl:=hx144 _ z_151
        refine s8 ?_
        refine kp [2,4,10,129] ?_
        refine W_cond rfl (fun q152=>?_) (fun q152=>?_)
        ·replace hp:=cond_t q152 hp
         refine s3 ?_
         replace hp:=ba hp;obtain ⟨y153,hy153,hp⟩:=hp
         refine L_callR rfl fn67.h rfl (by exact fun w hw=>i_copyENet_walk w (a0_1,a0_2) (RdT.now (RdT.pair (RdT.old h0.1) (RdT.old h0.2)) hw) _ hy153) ?_
         rintro _ _ ⟨⟨y153x0_1,y153x0_2⟩,rfl,rfl,rfl⟩
         refine sc ?_
         replace hp:=dd hp
         refine xL ((y153x0_1,y153x0_2):T_ENet) ?_
         refine s3 ?_
         obtain rfl:=sj hp
         refine jW ((y153x0_1,y153x0_2):T_ENet) ?_
         refine s1 ?_
         refine res2 rfl (ResOK.cell rfl mm (by exact agg29.h)) (ResOK.tmp rfl) ⟨(y153x0_1,y153x0_2),false,rfl,rfl,rfl⟩ ms
        ·replace hp:=cond_f q152 hp
         refine s7 ?_
         obtain rfl:=sj hp
         refine jW ((X143,v144_1):T_ENet) ?_
         refine s1 ?_
         refine res2 rfl (ResOK.cell rfl mm (by exact agg29.h)) (ResOK.tmp rfl) ⟨(X143,v144_1),true,rfl,rfl,rfl⟩ ms
     ·replace hp:=cond_f q137 hp
      refine s5 ?_
      refine kp [2,3,4,6,7,8,9,46,81] ?_
      refine W_cond rfl (fun q154=>?_) (fun q154=>?_)
      ·replace hp:=cond_t q154 hp
       refine s3 ?_
       refine L_loadW rfl rfl (RdC.seg (RdC.blk mm) 3 2 rfl) (by exact agg35.h) ?_
       replace hp:=ba hp;obtain ⟨y155,hy155,hp⟩:=hp
       refine L_callR rfl fn71.h rfl (by exact fun w hw=>i_ENodeRecover_walk w (u101_1,u101_2,u101_3,u101_4) (a1_4,a1_5) (RdT.now (RdT.pair RdT.int (RdT.pair RdT.int (RdT.pair (RdT.fst (RdT.snd (RdT.snd (RdT.of (RdT.old h0.1) (hy101).2)))) (RdT.snd (RdT.snd (RdT.snd (RdT.of (RdT.old h0.1) (hy101).2))))))) hw) (RdT.now (RdT.pair RdT.int RdT.int) hw) _ hy155) ?_
       rintro _ _ ⟨⟨y155x0_1,y155x0_2,y155x0_3,y155x0_4⟩,y155x1,y155x2,rfl,rfl,rfl⟩
       refine sc ?_
       replace hp:=dd hp
       refine xL ((y155x0_1,y155x0_2,y155x0_3,y155x0_4):T_ENode) ?_
       refine s11 ?_
       replace hp:=ba hp;obtain ⟨y156,hy156,hp⟩:=hp
       refine L_callR rfl fn67.h rfl (by exact fun w hw=>i_copyENet_walk w (a0_1,a0_2) (RdT.now (RdT.pair (RdT.old h0.1) (RdT.old h0.2)) hw) _ hy156) ?_
       rintro _ _ ⟨⟨y156x0_1,y156x0_2⟩,rfl,rfl,rfl⟩
       refine sc ?_
       replace hp:=dd hp
       refine xL ((y156x0_1,y156x0_2):T_ENet) ?_
       refine al fun bk10=>?_
       refine s8 ?_
       refine kp [2,4,6,7,8,10,101] ?_
       refine W_cond rfl (fun q157=>?_) (fun q157=>?_)
       ·replace hp:=cond_t q157 hp
        refine s6 ?_
        obtain rfl:=sj hp
        refine jW ((y156x0_1,y156x0_2):T_ENet) ?_
        refine s1 ?_
        refine res2 rfl (ResOK.cell rfl mm (by exact agg29.h)) (ResOK.tmp rfl) ⟨(y156x0_1,y156x0_2),false,rfl,rfl,rfl⟩ ms
       ·replace hp:=cond_f q157 hp
        refine s7 ?_
        replace hp:=idx_bind hp;obtain ⟨⟨u158_1,u158_2,u158_3,u158_4⟩,hy158,hp⟩:=hp
        refine L_idxA (X:=y156x0_1) rfl rfl rfl el26.h (RdT.tree mm) hy158 ?_
        refine L_conv (M':=treeH (u158_1,u158_2,u158_3,u158_4)::holeH y156x0_1 (a1_2.toNat) (GT.cells (u158_1,u158_2,u158_3,u158_4))::_) (fun w h=>hole_open hy158.2 pk h) ?_
        refine xL ((u158_1,u158_2,u158_3,u158_4):T_ENode) ?_
        refine L_stH (X:=y156x0_1) (i:=a1_2.toNat) (sz:=4) (fo:=0) (n:=4) rfl rfl pk rfl (.inl agg44.h) rfl (allOne rfl) (Nat.le_of_ble_eq_true rfl) ?_
        refine jL ((y155x0_1,y155x0_2,y155x0_3,y155x0_4):T_ENode) ?_
        replace hp:=ba hp;obtain ⟨y159,hy159,hp⟩:=hp
        refine L_close (X:=y156x0_1) ((y155x0_1,y155x0_2,y155x0_3,y155x0_4):T_ENode) rfl pk pk hy159 (fun X160 hdX160 hhX160=>?_)
        subst hdX160
        try rw [← hhX160]
        try rw [← g_of_hdr hhX160]
        try rw [← o_of_hdr hhX160]
        refine s9 ?_
        refine W_conv (M':=rowH y155x1::elsT (y155x1.els.drop 0)::_) (fun w h=>els_start pk h) ?_
        refine W_while (σ:=Int×(TL T_EMsg)) GT.dat (fun ((v161_0,v161_1):Int×(TL T_EMsg))=>[(110,.int .i64 v161_0)]) (fun ((v161_0,v161_1):Int×(TL T_EMsg))=>[blk bk10 [(TL.hdr X160),(TL.hdr v161_1)] 29,treeH v161_1,elsT (y155x1.els.drop (v161_0.toNat))]) [(2,_),(4,_),(10,_),(108,_),(109,_)] [blk bk2 _ _,blk bk4 _ _,treeH X160,rowH y155x1] (0,y156x0_2) hp sb ms ?_
        clear hp
        rintro ⟨v161_0,v161_1⟩ x161 hp hx161
        replace hp:=dd hp
        refine kq [2,4,10,108,109,110] ?_
        refine s5 ?_
        refine kp [2,4,10,108,109,110,111] ?_
        refine W_cond rfl (fun q162=>?_) (fun q162=>?_)
        ·replace hp:=cond_t q162 hp
         refine s5 ?_
         replace hp:=idx_bind hp;obtain ⟨⟨u163_1,u163_2,u163_3,⟨u163_4,u163_5⟩,u163_6,⟨u163_7,u163_8,u163_9,u163_10,u163_11,u163_12,u163_13,u163_14⟩,u163_15,u163_16,u163_17,u163_18,u163_19⟩,hy163,hp⟩:=hp
         refine L_idxR (X:=y155x1) rfl rfl rfl el27.h mm hy163 ?_
         refine L_conv (M':=treeH (u163_1,u163_2,u163_3,(u163_4,u163_5),u163_6,(u163_7,u163_8,u163_9,u163_10,u163_11,u163_12,u163_13,u163_14),u163_15,u163_16,u163_17,u163_18,u163_19)::elsT (y155x1.els.drop (v161_0.toNat+1))::_) (fun w h=>els_next hy163.2 pk h) ?_
         refine xL ((u163_1,u163_2,u163_3,(u163_4,u163_5),u163_6,(u163_7,u163_8,u163_9,u163_10,u163_11,u163_12,u163_13,u163_14),u163_15,u163_16,u163_17,u163_18,u163_19):T_EMsg) ?_
         refine L_loadW rfl rfl (RdC.row (X:=y155x1) mm hy163.2) (by exact agg103.h) ?_
         refine al fun bk12=>?_
         refine s7 ?_
         replace hp:=ba hp;obtain ⟨y164,hy164,hp⟩:=hp
         refine L_callX rfl fn65.h rfl (by exact fun w hw=>i_hasMsg_walk w v161_1 (u163_1,u163_2,u163_3,(u163_4,u163_5),u163_6,(u163_7,u163_8,u163_9,u163_10,u163_11,u163_12,u163_13,u163_14),u163_15,u163_16,u163_17,u163_18,u163_19) (RdT.now (RdT.tree mm) hw) (RdT.now (RdT.pair RdT.int (RdT.pair RdT.int (RdT.pair RdT.int (RdT.pair (RdT.pair RdT.int RdT.int) (RdT.pair RdT.int (RdT.pair (RdT.pair RdT.int (RdT.pair RdT.int (RdT.pair RdT.int (RdT.pair RdT.str (RdT.pair RdT.str (RdT.pair RdT.str (RdT.pair RdT.int (RdT.tree mm)))))))) (RdT.pair RdT.int (RdT.pair (RdT.tree mm) (RdT.pair RdT.int (RdT.pair RdT.int RdT.bool)))))))))) hw) _ hy164) ?_
         refine s2 ?_
         refine kp [2,4,10,12,108,109,110,118] ?_
         refine W_cond rfl (fun q165=>?_) (fun q165=>?_)
         ·replace hp:=cond_t q165 hp
          refine s4 ?_
          refine L_buildSlice1 rfl rfl el27.h rfl (by decide) (by decide) rfl (fun bb122=>?_)
          replace hp:=ba hp;obtain ⟨y167,hy167,hp⟩:=hp
          refine jL ((u163_1,u163_2,u163_3,(u163_4,u163_5),u163_6,(u163_7,u163_8,u163_9,u163_10,u163_11,u163_12,u163_13,u163_14),u163_15,u163_16,u163_17,u163_18,u163_19):T_EMsg) ?_
          refine L_app1m (X:=v161_1) ((u163_1,u163_2,u163_3,(u163_4,u163_5),u163_6,(u163_7,u163_8,u163_9,u163_10,u163_11,u163_12,u163_13,u163_14),u163_15,u163_16,u163_17,u163_18,u163_19):T_EMsg) rfl rfl rfl el27.h rfl rfl pk mm pk hy167 (by decide) (fun X166 hdX166 hmX166=>?_)
          subst hdX166
          refine s7 ?_
          exact ⟨(IntKind.wrap .i64 (v161_0+1),X166),sb,⟨_,fun w h=>(els_step hy163 mm pk h),ms⟩,some_eq hp⟩
         ·replace hp:=cond_f q165 hp
          refine s5 ?_
          exact ⟨(IntKind.wrap .i64 (v161_0+1),v161_1),sb,⟨_,fun w h=>(els_step hy163 mm pk h),ms⟩,some_eq hp⟩
        ·replace hp:=cond_f q162 hp
         refine W_exit ?_
         replace hp:=map_any hp;obtain ⟨a168,hp,z_168⟩:=hp
         obtain rfl:=hx161 _ z_168
         refine s8 ?_
         refine kp [2,4,10,129] ?_
         refine W_cond rfl (fun q169=>?_) (fun q169=>?_)
         ·replace hp:=cond_t q169 hp
          refine s3 ?_
          replace hp:=ba hp;obtain ⟨y170,hy170,hp⟩:=hp
          refine L_callR rfl fn67.h rfl (by exact fun w hw=>i_copyENet_walk w (a0_1,a0_2) (RdT.now (RdT.pair (RdT.old h0.1) (RdT.old h0.2)) hw) _ hy170) ?_
          rintro _ _ ⟨⟨y170x0_1,y170x0_2⟩,rfl,rfl,rfl⟩
          refine sc ?_
          replace hp:=dd hp
          refine xL ((y170x0_1,y170x0_2):T_ENet) ?_
          refine s3 ?_
          obtain rfl:=sj hp
          refine jW ((y170x0_1,y170x0_2):T_ENet) ?_
          refine s1 ?_
          refine res2 rfl (ResOK.cell rfl mm (by exact agg29.h)) (ResOK.tmp rfl) ⟨(y170x0_1,y170x0_2),false,rfl,rfl,rfl⟩ ms
         ·replace hp:=cond_f q169 hp
          refine s7 ?_
          obtain rfl:=sj hp
          refine jW ((X160,v161_1):T_ENet) ?_
          refine s1 ?_
          refine res2 rfl (ResOK.cell rfl mm (by exact agg29.h)) (ResOK.tmp rfl) ⟨(X160,v161_1),true,rfl,rfl,rfl⟩ ms
      ·replace hp:=cond_f q154 hp
       refine s5 ?_
       refine kp [2,4,6,7,8,9,91] ?_
       refine W_cond rfl (fun q171=>?_) (fun q171=>?_)
       ·replace hp:=cond_t q171 hp
        refine s2 ?_
        replace hp:=ba hp;obtain ⟨y172,hy172,hp⟩:=hp
        refine L_callR rfl fn72.h rfl (by exact fun w hw=>i_ENodeFall_walk w (u101_1,u101_2,u101_3,u101_4) (RdT.now (RdT.pair RdT.int (RdT.pair RdT.int (RdT.pair (RdT.fst (RdT.snd (RdT.snd (RdT.of (RdT.old h0.1) (hy101).2)))) (RdT.snd (RdT.snd (RdT.snd (RdT.of (RdT.old h0.1) (hy101).2))))))) hw) _ hy172) ?_
        rintro _ _ ⟨⟨y172x0_1,y172x0_2,y172x0_3,y172x0_4⟩,y172x1,rfl,rfl,rfl⟩
        refine sc ?_
        replace hp:=dd hp
        refine xL ((y172x0_1,y172x0_2,y172x0_3,y172x0_4):T_ENode) ?_
        refine s9 ?_
        replace hp:=ba hp;obtain ⟨y173,hy173,hp⟩:=hp
        refine L_callR rfl fn67.h rfl (by exact fun w hw=>i_copyENet_walk w (a0_1,a0_2) (RdT.now (RdT.pair (RdT.old h0.1) (RdT.old h0.2)) hw) _ hy173) ?_
        rintro _ _ ⟨⟨y173x0_1,y173x0_2⟩,rfl,rfl,rfl⟩
        refine sc ?_
        replace hp:=dd hp
        refine xL ((y173x0_1,y173x0_2):T_ENet) ?_
        refine al fun bk10=>?_
        refine s8 ?_
        refine kp [2,4,6,7,8,10,101] ?_
        refine W_cond rfl (fun q174=>?_) (fun q174=>?_)
        ·replace hp:=cond_t q174 hp
         refine s6 ?_
         obtain rfl:=sj hp
         refine jW ((y173x0_1,y173x0_2):T_ENet) ?_
         refine s1 ?_
         refine res2 rfl (ResOK.cell rfl mm (by exact agg29.h)) (ResOK.tmp rfl) ⟨(y173x0_1,y173x0_2),false,rfl,rfl,rfl⟩ ms
        ·replace hp:=cond_f q174 hp
         refine s7 ?_
         replace hp:=idx_bind hp;obtain ⟨⟨u175_1,u175_2,u175_3,u175_4⟩,hy175,hp⟩:=hp
         refine L_idxA (X:=y173x0_1) rfl rfl rfl el26.h (RdT.tree mm) hy175 ?_
         refine L_conv (M':=treeH (u175_1,u175_2,u175_3,u175_4)::holeH y173x0_1 (a1_2.toNat) (GT.cells (u175_1,u175_2,u175_3,u175_4))::_) (fun w h=>hole_open hy175.2 pk h) ?_
         refine xL ((u175_1,u175_2,u175_3,u175_4):T_ENode) ?_
         refine L_stH (X:=y173x0_1) (i:=a1_2.toNat) (sz:=4) (fo:=0) (n:=4) rfl rfl pk rfl (.inl agg44.h) rfl (allOne rfl) (Nat.le_of_ble_eq_true rfl) ?_
         refine jL ((y172x0_1,y172x0_2,y172x0_3,y172x0_4):T_ENode) ?_
         replace hp:=ba hp;obtain ⟨y176,hy176,hp⟩:=hp
         refine L_close (X:=y173x0_1) ((y172x0_1,y172x0_2,y172x0_3,y172x0_4):T_ENode) rfl pk pk hy176 (fun X177 hdX177 hhX177=>?_)
         subst hdX177
         try rw [← hhX177]
         try rw [← g_of_hdr hhX177]
         try rw [← o_of_hdr hhX177]
         refine s9 ?_
         refine W_conv (M':=treeH (TL.nil T_EMsg 0)::_) (fun w h=>addNilT (τ:=T_EMsg) 0 h) ?_
         refine W_conv (M':=rowH (TL.nil T_EMsg 0)::elsT ((TL.nil T_EMsg 0).els.drop 0)::_) (fun w h=>els_start pk h) ?_
         refine W_while (σ:=Int×(TL T_EMsg)) GT.dat (fun ((v178_0,v178_1):Int×(TL T_EMsg))=>[(110,.int .i64 v178_0)]) (fun ((v178_0,v178_1):Int×(TL T_EMsg))=>[blk bk10 [(TL.hdr X177),(TL.hdr v178_1)] 29,treeH v178_1,elsT ((TL.nil T_EMsg 0).els.drop (v178_0.toNat))]) [(2,_),(4,_),(10,_),(108,_),(109,_)] [blk bk2 _ _,blk bk4 _ _,treeH X177,rowH (TL.nil T_EMsg 0)] (0,y173x0_2) hp sb ms ?_
         clear hp
         rintro ⟨v178_0,v178_1⟩ x178 hp hx178
         replace hp:=dd hp
         refine kq [2,4,10,108,109,110] ?_
         refine s5 ?_
         refine kp [2,4,10,108,109,110,111] ?_
         refine W_cond rfl (fun q179=>?_) (fun q179=>?_)
         ·replace hp:=cond_t q179 hp
          refine s5 ?_
          have ho:=hp;clear hp;obtain ⟨u180,hy180,hp⟩:=idx_bind (X:=(TL.nil T_EMsg 0)) ho;clear ho
          obtain ⟨u180_1,u180_2,u180_3,⟨u180_4,u180_5⟩,u180_6,⟨u180_7,u180_8,u180_9,u180_10,u180_11,u180_12,u180_13,u180_14⟩,u180_15,u180_16,u180_17,u180_18,u180_19⟩:=u180
          refine L_idxR (X:=(TL.nil T_EMsg 0)) rfl rfl rfl el27.h mm hy180 ?_
          refine L_conv (M':=treeH (u180_1,u180_2,u180_3,(u180_4,u180_5),u180_6,(u180_7,u180_8,u180_9,u180_10,u180_11,u180_12,u180_13,u180_14),u180_15,u180_16,u180_17,u180_18,u180_19)::elsT ((TL.nil T_EMsg 0).els.drop (v178_0.toNat+1))::_) (fun w h=>els_next hy180.2 pk h) ?_
          refine xL ((u180_1,u180_2,u180_3,(u180_4,u180_5),u180_6,(u180_7,u180_8,u180_9,u180_10,u180_11,u180_12,u180_13,u180_14),u180_15,u180_16,u180_17,u180_18,u180_19):T_EMsg) ?_
          refine L_loadW rfl rfl (RdC.row (X:=(TL.nil T_EMsg 0)) mm hy180.2) (by exact agg103.h) ?_
          refine al fun bk12=>?_
          refine s7 ?_
          replace hp:=ba hp;obtain ⟨y181,hy181,hp⟩:=hp
          refine L_callX rfl fn65.h rfl (by exact fun w hw=>i_hasMsg_walk w v178_1 (u180_1,u180_2,u180_3,(u180_4,u180_5),u180_6,(u180_7,u180_8,u180_9,u180_10,u180_11,u180_12,u180_13,u180_14),u180_15,u180_16,u180_17,u180_18,u180_19) (RdT.now (RdT.tree mm) hw) (RdT.now (RdT.pair RdT.int (RdT.pair RdT.int (RdT.pair RdT.int (RdT.pair (RdT.pair RdT.int RdT.int) (RdT.pair RdT.int (RdT.pair (RdT.pair RdT.int (RdT.pair RdT.int (RdT.pair RdT.int (RdT.pair RdT.str (RdT.pair RdT.str (RdT.pair RdT.str (RdT.pair RdT.int (RdT.tree mm)))))))) (RdT.pair RdT.int (RdT.pair (RdT.tree mm) (RdT.pair RdT.int (RdT.pair RdT.int RdT.bool)))))))))) hw) _ hy181) ?_
          refine s2 ?_
          refine kp [2,4,10,12,108,109,110,118] ?_
          refine W_cond rfl (fun q182=>?_) (fun q182=>?_)
          ·replace hp:=cond_t q182 hp
           refine s4 ?_
           refine L_buildSlice1 rfl rfl el27.h rfl (by decide) (by decide) rfl (fun bb122=>?_)
           replace hp:=ba hp;obtain ⟨y184,hy184,hp⟩:=hp
           refine jL ((u180_1,u180_2,u180_3,(u180_4,u180_5),u180_6,(u180_7,u180_8,u180_9,u180_10,u180_11,u180_12,u180_13,u180_14),u180_15,u180_16,u180_17,u180_18,u180_19):T_EMsg) ?_
           refine L_app1m (X:=v178_1) ((u180_1,u180_2,u180_3,(u180_4,u180_5),u180_6,(u180_7,u180_8,u180_9,u180_10,u180_11,u180_12,u180_13,u180_14),u180_15,u180_16,u180_17,u180_18,u180_19):T_EMsg) rfl rfl rfl el27.h rfl rfl pk mm pk hy184 (by decide) (fun X183 hdX183 hmX183=>?_)
           subst hdX183
           refine s7 ?_
           exact ⟨(IntKind.wrap .i64 (v178_0+1),X183),sb,⟨_,fun w h=>(els_step hy180 mm pk h),ms⟩,some_eq hp⟩
          ·replace hp:=cond_f q182 hp
           refine s5 ?_
           exact ⟨(IntKind.wrap .i64 (v178_0+1),v178_1),sb,⟨_,fun w h=>(els_step hy180 mm pk h),ms⟩,some_eq hp⟩
         ·replace hp:=cond_f q179 hp
          refine W_exit ?_
          replace hp:=map_any hp;obtain ⟨a185,hp,z_185⟩:=hp
          obtain rfl:=hx178 _ z_185
          refine s8 ?_
          refine kp [2,4,10,129] ?_
          refine W_cond rfl (fun q186=>?_) (fun q186=>?_)
          ·replace hp:=cond_t q186 hp
           refine s3 ?_
           replace hp:=ba hp;obtain ⟨y187,hy187,hp⟩:=hp
           refine L_callR rfl fn67.h rfl (by exact fun w hw=>i_copyENet_walk w (a0_1,a0_2) (RdT.now (RdT.pair (RdT.old h0.1) (RdT.old h0.2)) hw) _ hy187) ?_
           rintro _ _ ⟨⟨y187x0_1,y187x0_2⟩,rfl,rfl,rfl⟩
           refine sc ?_
           replace hp:=dd hp
           refine xL ((y187x0_1,y187x0_2):T_ENet) ?_
           refine s3 ?_
           obtain rfl:=sj hp
           refine jW ((y187x0_1,y187x0_2):T_ENet) ?_
           refine s1 ?_
           refine res2 rfl (ResOK.cell rfl mm (by exact agg29.h)) (ResOK.tmp rfl) ⟨(y187x0_1,y187x0_2),false,rfl,rfl,rfl⟩ ms
          ·replace hp:=cond_f q186 hp
           refine s7 ?_
           obtain rfl:=sj hp
           refine jW ((X177,v178_1):T_ENet) ?_
           refine s1 ?_
           refine res2 rfl (ResOK.cell rfl mm (by exact agg29.h)) (ResOK.tmp rfl) ⟨(X177,v178_1),true,rfl,rfl,rfl⟩ ms
       ·replace hp:=cond_f q171 hp
        refine s4 ?_
        replace hp:=ba hp;obtain ⟨y188,hy188,hp⟩:=hp
        refine L_callR rfl fn67.h rfl (by exact fun w hw=>i_copyENet_walk w (a0_1,a0_2) (RdT.now (RdT.pair (RdT.old h0.1) (RdT.old h0.2)) hw) _ hy188) ?_
        rintro _ _ ⟨⟨y188x0_1,y188x0_2⟩,rfl,rfl,rfl⟩
        refine sc ?_
        replace hp:=dd hp
        refine xL ((y188x0_1,y188x0_2):T_ENet) ?_
        refine al fun bk10=>?_
        refine s8 ?_
        refine kp [2,4,6,7,8,10,101] ?_
        refine W_condT rfl ?_
        refine s6 ?_
        obtain rfl:=sj hp
        refine jW ((y188x0_1,y188x0_2):T_ENet) ?_
        refine s1 ?_
        refine res2 rfl (ResOK.cell rfl mm (by exact agg29.h)) (ResOK.tmp rfl) ⟨(y188x0_1,y188x0_2),false,rfl,rfl,rfl⟩ ms
end Go.Proofs.SL
