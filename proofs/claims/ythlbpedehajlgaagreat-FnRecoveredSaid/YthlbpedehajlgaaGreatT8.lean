/- The texts of the proof, part 8: the base, walks of functions, plain Lean. -/
import Derived.Test.YthlbpedehajlgaaGreatT7
import Derived.Test.YthlbpedehajlgaaGreatT5
import Derived.Lib.Overlaps
import Derived.Lib.AppendZerosOnto
import Derived.Laws.Externs
namespace Go.Proofs.SL
open Go
set_option maxHeartbeats 2000000
abbrev D_Lead:=D_Id×Int×Int×Int×(List D_Id)×(List Int)×Bool
abbrev D_ENode:=Int×Int×(List D_Inst)×(List D_Lead)
instance zero38:ZerF Tryz.prog 38 [.int .i64 0,.int .i64 0,.int .i64 0,.string ByteArray.empty,.string ByteArray.empty,.string ByteArray.empty,.int .i64 0,.slice none 0 0]:=⟨by kernel_rfl⟩
instance fn85:FnF Tryz.prog 85:=⟨_,Tryz.func85,by kernel_rfl,rfl⟩
instance fn39:FnF Tryz.prog 39:=⟨_,Tryz.func39,by kernel_rfl,rfl⟩
instance bld48:BldF Tryz.prog 48 [(0,2),(2,1),(3,1),(4,1),(5,8),(13,1),(14,1),(15,1)] [.int .i64 0,.int .i64 0,.int .i64 0,.int .i64 0,.int .i64 0,.int .i64 0,.int .i64 0,.int .i64 0,.string ByteArray.empty,.string ByteArray.empty,.string ByteArray.empty,.int .i64 0,.slice none 0 0,.int .i64 0,.slice none 0 0,.bool false]:=⟨by kernel_rfl⟩
instance fn179:FnF Tryz.prog 179:=⟨_,Tryz.func179,by kernel_rfl,rfl⟩
instance fn135:FnF Tryz.prog 135:=⟨_,Tryz.func135,by kernel_rfl,rfl⟩
instance fn123:FnF Tryz.prog 123:=⟨_,Tryz.func123,by kernel_rfl,rfl⟩
instance fn134:FnF Tryz.prog 134:=⟨_,Tryz.func134,by kernel_rfl,rfl⟩
instance fn133:FnF Tryz.prog 133:=⟨_,Tryz.func133,by kernel_rfl,rfl⟩
instance fn86:FnF Tryz.prog 86:=⟨_,Tryz.func86,by kernel_rfl,rfl⟩
instance fn87:FnF Tryz.prog 87:=⟨_,Tryz.func87,by kernel_rfl,rfl⟩
instance fld141_0:FldF Tryz.prog 141 0 0:=⟨by kernel_rfl⟩
instance fld141_1:FldF Tryz.prog 141 1 2:=⟨by kernel_rfl⟩
instance fld141_2:FldF Tryz.prog 141 2 3:=⟨by kernel_rfl⟩
instance fld141_3:FldF Tryz.prog 141 3 4:=⟨by kernel_rfl⟩
instance fld141_4:FldF Tryz.prog 141 4 5:=⟨by kernel_rfl⟩
instance fld141_5:FldF Tryz.prog 141 5 6:=⟨by kernel_rfl⟩
instance one78:OneF Tryz.prog 78:=⟨by kernel_rfl⟩
instance el78:ElF Tryz.prog 78 3 1 8 [.int .i64 0]:=⟨by kernel_rfl⟩
instance fn136:FnF Tryz.prog 136:=⟨_,Tryz.func136,by kernel_rfl,rfl⟩
instance fld44_3:FldF Tryz.prog 44 3 3:=⟨by kernel_rfl⟩
instance one42:OneF Tryz.prog 42:=⟨by kernel_rfl⟩
instance el42:ElF Tryz.prog 42 141 8 96 [.int .i64 0,.int .i64 0,.int .i64 0,.int .i64 0,.int .i64 0,.slice none 0 0,.slice none 0 0,.bool false]:=⟨by kernel_rfl⟩
instance fld44_0:FldF Tryz.prog 44 0 0:=⟨by kernel_rfl⟩
instance fld44_1:FldF Tryz.prog 44 1 1:=⟨by kernel_rfl⟩
instance fld44_2:FldF Tryz.prog 44 2 2:=⟨by kernel_rfl⟩
instance one41:OneF Tryz.prog 41:=⟨by kernel_rfl⟩
instance fn137:FnF Tryz.prog 137:=⟨_,Tryz.func137,by kernel_rfl,rfl⟩
instance agg141:AggF Tryz.prog 141 8:=⟨by kernel_rfl⟩
instance fn138:FnF Tryz.prog 138:=⟨_,Tryz.func138,by kernel_rfl,rfl⟩
instance agg44:AggF Tryz.prog 44 4:=⟨by kernel_rfl⟩
instance fn139:FnF Tryz.prog 139:=⟨_,Tryz.func139,by kernel_rfl,rfl⟩
instance fn62:FnF Tryz.prog 62:=⟨_,Tryz.func62,by kernel_rfl,rfl⟩
instance fn115:FnF Tryz.prog 115:=⟨_,Tryz.func115,by kernel_rfl,rfl⟩
instance fn160:FnF Tryz.prog 160:=⟨_,Tryz.func160,by kernel_rfl,rfl⟩
instance fn159:FnF Tryz.prog 159:=⟨_,Tryz.func159,by kernel_rfl,rfl⟩
instance fn73:FnF Tryz.prog 73:=⟨_,Tryz.func73,by kernel_rfl,rfl⟩
instance fn110:FnF Tryz.prog 110:=⟨_,Tryz.func110,by kernel_rfl,rfl⟩
instance zero141:ZerF Tryz.prog 141 [.int .i64 0,.int .i64 0,.int .i64 0,.int .i64 0,.int .i64 0,.slice none 0 0,.slice none 0 0,.bool false]:=⟨by kernel_rfl⟩
instance fn111:FnF Tryz.prog 111:=⟨_,Tryz.func111,by kernel_rfl,rfl⟩
instance fn112:FnF Tryz.prog 112:=⟨_,Tryz.func112,by kernel_rfl,rfl⟩
noncomputable def s_l4Copy (a0:D_Cmd):Option D_Cmd :=
 Option.bind (some ([]:List ByteArray)) (fun y2=>Option.bind (appP y2 a0.2.2.2.2.2.2.2) (fun y4=>some (a0.1,a0.2.1,a0.2.2.1,a0.2.2.2.1,a0.2.2.2.2.1,a0.2.2.2.2.2.1,a0.2.2.2.2.2.2.1,y4)))
theorem s_l4Copy_walk (w:World) (a0:T_Cmd) (h0:GT.rd w [] a0) (r:D_Cmd) (hp:s_l4Copy (GT.dat a0)=some r):Spec Tryz.prog 85 [.agg (GT.cells a0).toArray].toArray w [] (fun v M=>∃ (x0:T_Cmd),v=.agg (GT.cells x0).toArray∧GT.dat x0=r∧M=[treeH x0]):=by
 obtain ⟨a0_1,a0_2,a0_3,a0_4,a0_5,a0_6,a0_7,a0_8⟩:=a0
 change Spec _ _ ([Value.agg #[.int .i64 a0_1,.int .i64 a0_2,.int .i64 a0_3,.string a0_4,.string a0_5,.string a0_6,.int .i64 a0_7,(TL.hdr a0_8)]]:List Value).toArray w [] _
 refine Spec.intro Tryz.func85 rfl Tryz.ntmps85 rfl ?_
 unfold s_l4Copy at hp
 replace hp:=dd hp
 refine s2 ?_
 refine bx fun bk1=>?_
 refine al fun bk2=>?_
 refine s3 ?_
 replace hp:=ba hp;obtain ⟨y2,hy2,hp⟩:=hp
 refine L_mk0 ByteArray rfl el36.h (fun X1 hdX1=>?_)
 obtain rfl:GT.dat X1=y2:=hdX1.trans (Option.some.inj hy2)
 clear hy2 hdX1
 refine s2 ?_
 replace hp:=ba hp;obtain ⟨y4,hy4,hp⟩:=hp
 refine L_appT (X:=X1) (Y:=a0_8) rfl rfl rfl el36.h rfl rfl pk (RdT.old h0.2.2.2.2.2.2.2) hy4 (by decide) (fun X3 hdX3=>?_)
 subst hdX3
 refine s8 ?_
 obtain rfl:=sj hp
 refine jW ((a0_1,a0_2,a0_3,a0_4,a0_5,a0_6,a0_7,X3):T_Cmd) ?_
 refine s1 ?_
 refine res1 rfl (ResOK.cell rfl mm (by exact agg38.h)) ⟨(a0_1,a0_2,a0_3,a0_4,a0_5,a0_6,a0_7,X3),rfl,rfl,rfl⟩ ms
noncomputable def s_l8Copy (a0:D_Inst):Option D_Inst :=
 Option.bind (s_l4Copy (a0.2.2.2.2.1.1,a0.2.2.2.2.1.2.1,a0.2.2.2.2.1.2.2.1,a0.2.2.2.2.1.2.2.2.1,a0.2.2.2.2.1.2.2.2.2.1,a0.2.2.2.2.1.2.2.2.2.2.1,a0.2.2.2.2.1.2.2.2.2.2.2.1,a0.2.2.2.2.1.2.2.2.2.2.2.2)) (fun y1=>Option.bind (some ([]:List D_Id)) (fun y3=>Option.bind (appP y3 a0.2.2.2.2.2.2.1) (fun y5=>some ((a0.1.1,a0.1.2),a0.2.1,a0.2.2.1,a0.2.2.2.1,(y1.1,y1.2.1,y1.2.2.1,y1.2.2.2.1,y1.2.2.2.2.1,y1.2.2.2.2.2.1,y1.2.2.2.2.2.2.1,y1.2.2.2.2.2.2.2),a0.2.2.2.2.2.1,y5,a0.2.2.2.2.2.2.2))))
theorem s_l8Copy_walk (w:World) (a0:T_Inst) (h0:GT.rd w [] a0) (r:D_Inst) (hp:s_l8Copy (GT.dat a0)=some r):Spec Tryz.prog 39 [.agg (GT.cells a0).toArray].toArray w [] (fun v M=>∃ (x0:T_Inst),v=.agg (GT.cells x0).toArray∧GT.dat x0=r∧M=[treeH x0]):=by
 obtain ⟨⟨a0_1,a0_2⟩,a0_3,a0_4,a0_5,⟨a0_6,a0_7,a0_8,a0_9,a0_10,a0_11,a0_12,a0_13⟩,a0_14,a0_15,a0_16⟩:=a0
 change Spec _ _ ([Value.agg #[.int .i64 a0_1,.int .i64 a0_2,.int .i64 a0_3,.int .i64 a0_4,.int .i64 a0_5,.int .i64 a0_6,.int .i64 a0_7,.int .i64 a0_8,.string a0_9,.string a0_10,.string a0_11,.int .i64 a0_12,(TL.hdr a0_13),.int .i64 a0_14,(TL.hdr a0_15),.bool a0_16]]:List Value).toArray w [] _
 refine Spec.intro Tryz.func39 rfl Tryz.ntmps39 rfl ?_
 unfold s_l8Copy at hp
 replace hp:=dd hp
 refine s2 ?_
 refine bx fun bk1=>?_
 refine al fun bk2=>?_
 refine s4 ?_
 refine L_loadW rfl rfl (RdC.seg (RdC.blk mm) 5 8 rfl) (by exact agg38.h) ?_
 replace hp:=ba hp;obtain ⟨y1,hy1,hp⟩:=hp
 refine L_callR rfl fn85.h rfl (by exact fun w hw=>s_l4Copy_walk w (a0_6,a0_7,a0_8,a0_9,a0_10,a0_11,a0_12,a0_13) (RdT.now (RdT.pair RdT.int (RdT.pair RdT.int (RdT.pair RdT.int (RdT.pair RdT.str (RdT.pair RdT.str (RdT.pair RdT.str (RdT.pair RdT.int (RdT.old h0.2.2.2.2.1.2.2.2.2.2.2.2)))))))) hw) _ hy1) ?_
 rintro _ _ ⟨⟨y1x0_1,y1x0_2,y1x0_3,y1x0_4,y1x0_5,y1x0_6,y1x0_7,y1x0_8⟩,rfl,rfl,rfl⟩
 refine sc ?_
 replace hp:=dd hp
 refine xL ((y1x0_1,y1x0_2,y1x0_3,y1x0_4,y1x0_5,y1x0_6,y1x0_7,y1x0_8):T_Cmd) ?_
 refine s1 ?_
 refine L_storeA (fo:=5) rfl rfl pk (by exact agg38.h) (Nat.le_of_ble_eq_true rfl) ocs rfl ?_
 refine s3 ?_
 replace hp:=ba hp;obtain ⟨y3,hy3,hp⟩:=hp
 refine L_mk0 T_Id rfl el31.h (fun X2 hdX2=>?_)
 obtain rfl:GT.dat X2=y3:=hdX2.trans (Option.some.inj hy3)
 clear hy3 hdX2
 refine s2 ?_
 replace hp:=ba hp;obtain ⟨y5,hy5,hp⟩:=hp
 refine L_appT (X:=X2) (Y:=a0_15) rfl rfl rfl el31.h rfl rfl pk (RdT.old h0.2.2.2.2.2.2.1) hy5 (by decide) (fun X4 hdX4=>?_)
 subst hdX4
 refine s8 ?_
 obtain rfl:=sj hp
 refine jW (((a0_1,a0_2),a0_3,a0_4,a0_5,(y1x0_1,y1x0_2,y1x0_3,y1x0_4,y1x0_5,y1x0_6,y1x0_7,y1x0_8),a0_14,X4,a0_16):T_Inst) ?_
 refine s1 ?_
 refine res1 rfl (ResOK.cell rfl mm (by exact agg48.h)) ⟨((a0_1,a0_2),a0_3,a0_4,a0_5,(y1x0_1,y1x0_2,y1x0_3,y1x0_4,y1x0_5,y1x0_6,y1x0_7,y1x0_8),a0_14,X4,a0_16),rfl,rfl,rfl⟩ ms
noncomputable def s_InstAt (a0:List D_Inst) (a1:D_Id):Option D_Inst :=
 whileP (fun s1:Int=>cond (decide (s1 < (a0.length:Int))) (Option.bind (idx a0 s1) (fun y3=>cond (decide (y3.1.1=a1.1)&&(decide (y3.1.2=a1.2)&&true)) (Option.bind (idx a0 s1) (fun y5=>Option.bind (s_l8Copy ((y5.1.1,y5.1.2),y5.2.1,y5.2.2.1,y5.2.2.2.1,(y5.2.2.2.2.1.1,y5.2.2.2.2.1.2.1,y5.2.2.2.2.1.2.2.1,y5.2.2.2.2.1.2.2.2.1,y5.2.2.2.2.1.2.2.2.2.1,y5.2.2.2.2.1.2.2.2.2.2.1,y5.2.2.2.2.1.2.2.2.2.2.2.1,y5.2.2.2.2.1.2.2.2.2.2.2.2),y5.2.2.2.2.2.1,y5.2.2.2.2.2.2.1,y5.2.2.2.2.2.2.2)) (fun y6=>Option.map .inr (some ((y6.1.1,y6.1.2),y6.2.1,y6.2.2.1,y6.2.2.2.1,(y6.2.2.2.2.1.1,y6.2.2.2.2.1.2.1,y6.2.2.2.2.1.2.2.1,y6.2.2.2.2.1.2.2.2.1,y6.2.2.2.2.1.2.2.2.2.1,y6.2.2.2.2.1.2.2.2.2.2.1,y6.2.2.2.2.1.2.2.2.2.2.2.1,y6.2.2.2.2.1.2.2.2.2.2.2.2),y6.2.2.2.2.2.1,y6.2.2.2.2.2.2.1,y6.2.2.2.2.2.2.2))))) (some (.inl (IntKind.wrap .i64 (s1+1)))))) (Option.map .inr (some ((a1.1,a1.2),(-1),(-1),0,(0,0,0,ByteArray.empty,ByteArray.empty,ByteArray.empty,0,([]:List ByteArray)),0,([]:List D_Id),false)))) 0
theorem s_InstAt_walk (w:World) (a0:TL T_Inst) (a1:T_Id) (h0:GT.rd w [] a0) (h1:GT.rd w [] a1) (r:D_Inst) (hp:s_InstAt (GT.dat a0) (GT.dat a1)=some r):Spec Tryz.prog 12 [(TL.hdr a0),.agg (GT.cells a1).toArray].toArray w [] (fun v M=>∃ (x0:T_Inst),v=.agg (GT.cells x0).toArray∧GT.dat x0=r∧M=[treeH x0]):=by
 obtain ⟨a1_1,a1_2⟩:=a1
 change Spec _ _ ([(TL.hdr a0),Value.agg #[.int .i64 a1_1,.int .i64 a1_2]]:List Value).toArray w [] _
 refine Spec.intro Tryz.func12 rfl Tryz.ntmps12 rfl ?_
 unfold s_InstAt at hp
 replace hp:=dd hp
 refine s2 ?_
 refine bx fun bk3=>?_
 refine al fun bk4=>?_
 refine s7 ?_
 refine W_while (σ:=Int) GT.dat (fun (v1_0:Int)=>[(5,.int .i64 v1_0)]) (fun (v1_0:Int)=>[]) [(0,_),(3,_),(4,_)] [blk bk3 _ _,blk bk4 _ _] 0 hp sb ms ?_
 clear hp
 rintro v1_0 x1 hp hx1
 replace hp:=dd hp
 refine kq [0,3,4,5] ?_
 refine s8 ?_
 refine kp [0,3,4,5,9] ?_
 refine W_cond rfl (fun q2=>?_) (fun q2=>?_)
 ·replace hp:=cond_t q2 hp
  refine s4 ?_
  replace hp:=idx_bind hp;obtain ⟨⟨⟨u3_1,u3_2⟩,u3_3,u3_4,u3_5,⟨u3_6,u3_7,u3_8,u3_9,u3_10,u3_11,u3_12,u3_13⟩,u3_14,u3_15,u3_16⟩,hy3,hp⟩:=hp
  refine W_D0 [18] mix (by kernel_rfl) rfl ?_
  refine s2 ?_
  refine D_idxA (X:=a0) GC.none (OpV.t rfl) (OpV.t rfl) el41.h (RdT.old h0) (fun _=>hy3) ?_
  refine s1 ?_
  refine D_loadW GC.none (OpV.t rfl) (fun hg=>RdC.seg (RdT.at (RdT.old h0) (hy3).2) 0 2 rfl) (by exact agg35.h) ?_
  refine s1 ?_
  refine D_bin GC.none (OpV.t rfl) (OpV.t rfl) (fun hg=>(bv_aeql eqsh35 (EqS.consI one3.h und3.h rfl rfl (EqS.consI one3.h und3.h rfl rfl EqS.nil)))) ?_
  refine s9 ?_
  refine kp [0,3,4,5,18] ?_
  refine W_cond rfl (fun q4=>?_) (fun q4=>?_)
  ·replace hp:=cond_t q4 hp
   refine s4 ?_
   replace hp:=idx_bind hp;obtain ⟨u5,hy5,hp⟩:=hp
   obtain rfl:((u3_1,u3_2),u3_3,u3_4,u3_5,(u3_6,u3_7,u3_8,u3_9,u3_10,u3_11,u3_12,u3_13),u3_14,u3_15,u3_16)=u5:=Option.some.inj (hy3.2.symm.trans hy5.2)
   refine L_idxA (X:=a0) rfl rfl rfl el41.h (RdT.old h0) hy3 ?_
   refine L_loadW rfl rfl (RdT.at (RdT.old h0) (hy3).2) (by exact agg48.h) ?_
   replace hp:=ba hp;obtain ⟨y6,hy6,hp⟩:=hp
   refine L_callR rfl fn39.h rfl (by exact fun w hw=>s_l8Copy_walk w ((u3_1,u3_2),u3_3,u3_4,u3_5,(u3_6,u3_7,u3_8,u3_9,u3_10,u3_11,u3_12,u3_13),u3_14,u3_15,u3_16) (RdT.now (RdT.pair (RdT.pair RdT.int RdT.int) (RdT.pair RdT.int (RdT.pair RdT.int (RdT.pair RdT.int (RdT.pair (RdT.pair RdT.int (RdT.pair RdT.int (RdT.pair RdT.int (RdT.pair RdT.str (RdT.pair RdT.str (RdT.pair RdT.str (RdT.pair RdT.int (RdT.snd (RdT.snd (RdT.snd (RdT.snd (RdT.snd (RdT.snd (RdT.snd (RdT.fst (RdT.snd (RdT.snd (RdT.snd (RdT.snd (RdT.of (RdT.old h0) (hy3).2)))))))))))))))))))) (RdT.pair RdT.int (RdT.pair (RdT.fst (RdT.snd (RdT.snd (RdT.snd (RdT.snd (RdT.snd (RdT.snd (RdT.of (RdT.old h0) (hy3).2)))))))) RdT.bool))))))) hw) _ hy6) ?_
   rintro _ _ ⟨⟨⟨y6x0_1,y6x0_2⟩,y6x0_3,y6x0_4,y6x0_5,⟨y6x0_6,y6x0_7,y6x0_8,y6x0_9,y6x0_10,y6x0_11,y6x0_12,y6x0_13⟩,y6x0_14,y6x0_15,y6x0_16⟩,rfl,rfl,rfl⟩
   refine sc ?_
   replace hp:=dd hp
   refine xL (((y6x0_1,y6x0_2),y6x0_3,y6x0_4,y6x0_5,(y6x0_6,y6x0_7,y6x0_8,y6x0_9,y6x0_10,y6x0_11,y6x0_12,y6x0_13),y6x0_14,y6x0_15,y6x0_16):T_Inst) ?_
   refine s2 ?_
   replace hp:=map_any hp;obtain ⟨a7,hp,z_7⟩:=hp
   obtain rfl:=hx1 _ z_7
   obtain rfl:=sj hp
   refine jW (((y6x0_1,y6x0_2),y6x0_3,y6x0_4,y6x0_5,(y6x0_6,y6x0_7,y6x0_8,y6x0_9,y6x0_10,y6x0_11,y6x0_12,y6x0_13),y6x0_14,y6x0_15,y6x0_16):T_Inst) ?_
   refine s1 ?_
   refine res1 rfl (ResOK.cell rfl mm (by exact agg48.h)) ⟨((y6x0_1,y6x0_2),y6x0_3,y6x0_4,y6x0_5,(y6x0_6,y6x0_7,y6x0_8,y6x0_9,y6x0_10,y6x0_11,y6x0_12,y6x0_13),y6x0_14,y6x0_15,y6x0_16),rfl,rfl,rfl⟩ ms
  ·replace hp:=cond_f q4 hp
   refine s6 ?_
   exact ⟨IntKind.wrap .i64 (v1_0+1),sb,(.sub ms),some_eq hp⟩
 ·replace hp:=cond_f q2 hp
  refine W_exit ?_
  replace hp:=map_any hp;obtain ⟨a8,hp,z_8⟩:=hp
  obtain rfl:=hx1 _ z_8
  refine s3 ?_
  refine L_build (xs:=[(0,.tmp 24),(1,.const (.int .i64 (-1))),(2,.const (.int .i64 (-1)))]) (cs:=[.int .i64 a1_1,.int .i64 a1_2,.int .i64 (-1),.int .i64 (-1),.int .i64 0,.int .i64 0,.int .i64 0,.int .i64 0,.string ByteArray.empty,.string ByteArray.empty,.string ByteArray.empty,.int .i64 0,(TL.hdr (TL.nil ByteArray 0)),.int .i64 0,(TL.hdr (TL.nil T_Id 0)),.bool false]) rfl rfl bld48.h rfl ?_
  refine s2 ?_
  obtain rfl:=sj hp
  refine W_conv (M':=treeH (TL.nil ByteArray 0)::_) (fun w h=>addNilT (τ:=ByteArray) 0 h) ?_
  refine W_conv (M':=treeH (TL.nil T_Id 0)::_) (fun w h=>addNilT (τ:=T_Id) 0 h) ?_
  refine jW (((a1_1,a1_2),(-1),(-1),0,(0,0,0,ByteArray.empty,ByteArray.empty,ByteArray.empty,0,(TL.nil ByteArray 0)),0,(TL.nil T_Id 0),false):T_Inst) ?_
  refine s1 ?_
  refine res1 rfl (ResOK.cell rfl mm (by exact agg48.h)) ⟨((a1_1,a1_2),(-1),(-1),0,(0,0,0,ByteArray.empty,ByteArray.empty,ByteArray.empty,0,(TL.nil ByteArray 0)),0,(TL.nil T_Id 0),false),rfl,rfl,rfl⟩ ms
noncomputable def i_copyTexts (a0:List ByteArray):Option (List ByteArray) :=
 Option.bind (appP ([]:List ByteArray) a0) (fun y2=>some y2)
theorem i_copyTexts_walk (w:World) (a0:TL ByteArray) (h0:GT.rd w [] a0) (r:(List ByteArray)) (hp:i_copyTexts (GT.dat a0)=some r):Spec Tryz.prog 179 [(TL.hdr a0)].toArray w [] (fun v M=>∃ (x0:TL ByteArray),v=(TL.hdr x0)∧GT.dat x0=r∧M=[treeH x0]):=by
 refine Spec.intro Tryz.func179 rfl Tryz.ntmps179 rfl ?_
 unfold i_copyTexts at hp
 replace hp:=dd hp
 refine s2 ?_
 refine L_assign (v:=(TL.hdr (TL.nil ByteArray 0))) rfl rfl ?_
 refine s4 ?_
 refine L_conv (M':=treeH (TL.nil ByteArray 0)::_) (fun w h=>addNilT _ h) ?_
 replace hp:=ba hp;obtain ⟨y2,hy2,hp⟩:=hp
 refine L_appT (X:=(TL.nil ByteArray 0)) (Y:=a0) rfl rfl rfl el36.h rfl rfl pk (RdT.old h0) hy2 (by decide) (fun X1 hdX1=>?_)
 subst hdX1
 refine s2 ?_
 obtain rfl:=sj hp
 refine s1 ?_
 refine res1 rfl (ResOK.tmp rfl) ⟨X1,rfl,rfl,rfl⟩ ms
noncomputable def i_copyCmd (a0:D_Cmd):Option D_Cmd :=
 Option.bind (i_copyTexts a0.2.2.2.2.2.2.2) (fun y1=>some (a0.1,a0.2.1,a0.2.2.1,a0.2.2.2.1,a0.2.2.2.2.1,a0.2.2.2.2.2.1,a0.2.2.2.2.2.2.1,y1))
theorem i_copyCmd_walk (w:World) (a0:T_Cmd) (h0:GT.rd w [] a0) (r:D_Cmd) (hp:i_copyCmd (GT.dat a0)=some r):Spec Tryz.prog 135 [.agg (GT.cells a0).toArray].toArray w [] (fun v M=>∃ (x0:T_Cmd),v=.agg (GT.cells x0).toArray∧GT.dat x0=r∧M=[treeH x0]):=by
 obtain ⟨a0_1,a0_2,a0_3,a0_4,a0_5,a0_6,a0_7,a0_8⟩:=a0
 change Spec _ _ ([Value.agg #[.int .i64 a0_1,.int .i64 a0_2,.int .i64 a0_3,.string a0_4,.string a0_5,.string a0_6,.int .i64 a0_7,(TL.hdr a0_8)]]:List Value).toArray w [] _
 refine Spec.intro Tryz.func135 rfl Tryz.ntmps135 rfl ?_
 unfold i_copyCmd at hp
 replace hp:=dd hp
 refine s2 ?_
 refine bx fun bk1=>?_
 refine al fun bk2=>?_
 refine s5 ?_
 replace hp:=ba hp;obtain ⟨y1,hy1,hp⟩:=hp
 refine L_callR rfl fn179.h rfl (by exact fun w hw=>i_copyTexts_walk w a0_8 (RdT.now (RdT.old h0.2.2.2.2.2.2.2) hw) _ hy1) ?_
 rintro _ _ ⟨y1x0,rfl,rfl,rfl⟩
 refine sc ?_
 replace hp:=dd hp
 refine s8 ?_
 obtain rfl:=sj hp
 refine jW ((a0_1,a0_2,a0_3,a0_4,a0_5,a0_6,a0_7,y1x0):T_Cmd) ?_
 refine s1 ?_
 refine res1 rfl (ResOK.cell rfl mm (by exact agg38.h)) ⟨(a0_1,a0_2,a0_3,a0_4,a0_5,a0_6,a0_7,y1x0),rfl,rfl,rfl⟩ ms
noncomputable def i_copyIds (a0:List D_Id):Option (List D_Id) :=
 Option.bind (appP ([]:List D_Id) a0) (fun y2=>some y2)
theorem i_copyIds_walk (w:World) (a0:TL T_Id) (h0:GT.rd w [] a0) (r:(List D_Id)) (hp:i_copyIds (GT.dat a0)=some r):Spec Tryz.prog 123 [(TL.hdr a0)].toArray w [] (fun v M=>∃ (x0:TL T_Id),v=(TL.hdr x0)∧GT.dat x0=r∧M=[treeH x0]):=by
 refine Spec.intro Tryz.func123 rfl Tryz.ntmps123 rfl ?_
 unfold i_copyIds at hp
 replace hp:=dd hp
 refine s2 ?_
 refine L_assign (v:=(TL.hdr (TL.nil T_Id 0))) rfl rfl ?_
 refine s4 ?_
 refine L_conv (M':=treeH (TL.nil T_Id 0)::_) (fun w h=>addNilT _ h) ?_
 replace hp:=ba hp;obtain ⟨y2,hy2,hp⟩:=hp
 refine L_appT (X:=(TL.nil T_Id 0)) (Y:=a0) rfl rfl rfl el31.h rfl rfl pk (RdT.old h0) hy2 (by decide) (fun X1 hdX1=>?_)
 subst hdX1
 refine s2 ?_
 obtain rfl:=sj hp
 refine s1 ?_
 refine res1 rfl (ResOK.tmp rfl) ⟨X1,rfl,rfl,rfl⟩ ms
noncomputable def i_copyInst (a0:D_Inst):Option D_Inst :=
 Option.bind (i_copyCmd (a0.2.2.2.2.1.1,a0.2.2.2.2.1.2.1,a0.2.2.2.2.1.2.2.1,a0.2.2.2.2.1.2.2.2.1,a0.2.2.2.2.1.2.2.2.2.1,a0.2.2.2.2.1.2.2.2.2.2.1,a0.2.2.2.2.1.2.2.2.2.2.2.1,a0.2.2.2.2.1.2.2.2.2.2.2.2)) (fun y1=>Option.bind (i_copyIds a0.2.2.2.2.2.2.1) (fun y2=>some ((a0.1.1,a0.1.2),a0.2.1,a0.2.2.1,a0.2.2.2.1,(y1.1,y1.2.1,y1.2.2.1,y1.2.2.2.1,y1.2.2.2.2.1,y1.2.2.2.2.2.1,y1.2.2.2.2.2.2.1,y1.2.2.2.2.2.2.2),a0.2.2.2.2.2.1,y2,a0.2.2.2.2.2.2.2)))
theorem i_copyInst_walk (w:World) (a0:T_Inst) (h0:GT.rd w [] a0) (r:D_Inst) (hp:i_copyInst (GT.dat a0)=some r):Spec Tryz.prog 87 [.agg (GT.cells a0).toArray].toArray w [] (fun v M=>∃ (x0:T_Inst),v=.agg (GT.cells x0).toArray∧GT.dat x0=r∧M=[treeH x0]):=by
 obtain ⟨⟨a0_1,a0_2⟩,a0_3,a0_4,a0_5,⟨a0_6,a0_7,a0_8,a0_9,a0_10,a0_11,a0_12,a0_13⟩,a0_14,a0_15,a0_16⟩:=a0
 change Spec _ _ ([Value.agg #[.int .i64 a0_1,.int .i64 a0_2,.int .i64 a0_3,.int .i64 a0_4,.int .i64 a0_5,.int .i64 a0_6,.int .i64 a0_7,.int .i64 a0_8,.string a0_9,.string a0_10,.string a0_11,.int .i64 a0_12,(TL.hdr a0_13),.int .i64 a0_14,(TL.hdr a0_15),.bool a0_16]]:List Value).toArray w [] _
 refine Spec.intro Tryz.func87 rfl Tryz.ntmps87 rfl ?_
 unfold i_copyInst at hp
 replace hp:=dd hp
 refine s2 ?_
 refine bx fun bk1=>?_
 refine al fun bk2=>?_
 refine s4 ?_
 refine L_loadW rfl rfl (RdC.seg (RdC.blk mm) 5 8 rfl) (by exact agg38.h) ?_
 replace hp:=ba hp;obtain ⟨y1,hy1,hp⟩:=hp
 refine L_callR rfl fn135.h rfl (by exact fun w hw=>i_copyCmd_walk w (a0_6,a0_7,a0_8,a0_9,a0_10,a0_11,a0_12,a0_13) (RdT.now (RdT.pair RdT.int (RdT.pair RdT.int (RdT.pair RdT.int (RdT.pair RdT.str (RdT.pair RdT.str (RdT.pair RdT.str (RdT.pair RdT.int (RdT.old h0.2.2.2.2.1.2.2.2.2.2.2.2)))))))) hw) _ hy1) ?_
 rintro _ _ ⟨⟨y1x0_1,y1x0_2,y1x0_3,y1x0_4,y1x0_5,y1x0_6,y1x0_7,y1x0_8⟩,rfl,rfl,rfl⟩
 refine sc ?_
 replace hp:=dd hp
 refine xL ((y1x0_1,y1x0_2,y1x0_3,y1x0_4,y1x0_5,y1x0_6,y1x0_7,y1x0_8):T_Cmd) ?_
 refine s1 ?_
 refine L_storeA (fo:=5) rfl rfl pk (by exact agg38.h) (Nat.le_of_ble_eq_true rfl) ocs rfl ?_
 refine s5 ?_
 replace hp:=ba hp;obtain ⟨y2,hy2,hp⟩:=hp
 refine L_callR rfl fn123.h rfl (by exact fun w hw=>i_copyIds_walk w a0_15 (RdT.now (RdT.old h0.2.2.2.2.2.2.1) hw) _ hy2) ?_
 rintro _ _ ⟨y2x0,rfl,rfl,rfl⟩
 refine sc ?_
 replace hp:=dd hp
 refine s8 ?_
 obtain rfl:=sj hp
 refine jW (((a0_1,a0_2),a0_3,a0_4,a0_5,(y1x0_1,y1x0_2,y1x0_3,y1x0_4,y1x0_5,y1x0_6,y1x0_7,y1x0_8),a0_14,y2x0,a0_16):T_Inst) ?_
 refine s1 ?_
 refine res1 rfl (ResOK.cell rfl mm (by exact agg48.h)) ⟨((a0_1,a0_2),a0_3,a0_4,a0_5,(y1x0_1,y1x0_2,y1x0_3,y1x0_4,y1x0_5,y1x0_6,y1x0_7,y1x0_8),a0_14,y2x0,a0_16),rfl,rfl,rfl⟩ ms
noncomputable def i_instAt_c1 (a0:D_Inst) (c0:D_Id):Option Bool :=
 some (decide (a0.1.1=c0.1)&&(decide (a0.1.2=c0.2)&&true))
theorem i_instAt_c1_walk (w:World) (a0:T_Inst) (b0:Nat) (c0:T_Id) (h0:GT.rd w [] a0) (hb0:Cells w [] b0 0 (GT.cells c0)) (q0:GT.rd w [] c0) (r:Bool) (hp:i_instAt_c1 (GT.dat a0) (GT.dat c0)=some r):Spec Tryz.prog 134 ([(.agg (GT.cells a0).toArray:Value)]++[Value.pointer (some ⟨b0,0,none⟩)]).toArray w [] (IsV (.bool r)):=by
 obtain ⟨⟨a0_1,a0_2⟩,a0_3,a0_4,a0_5,⟨a0_6,a0_7,a0_8,a0_9,a0_10,a0_11,a0_12,a0_13⟩,a0_14,a0_15,a0_16⟩:=a0
 obtain ⟨c0_1,c0_2⟩:=c0
 change Spec _ _ ([Value.agg #[.int .i64 a0_1,.int .i64 a0_2,.int .i64 a0_3,.int .i64 a0_4,.int .i64 a0_5,.int .i64 a0_6,.int .i64 a0_7,.int .i64 a0_8,.string a0_9,.string a0_10,.string a0_11,.int .i64 a0_12,(TL.hdr a0_13),.int .i64 a0_14,(TL.hdr a0_15),.bool a0_16],Value.pointer (some ⟨b0,0,none⟩)]:List Value).toArray w [] _
 refine Spec.intro Tryz.func134 rfl Tryz.ntmps134 rfl ?_
 unfold i_instAt_c1 at hp
 replace hp:=dd hp
 refine s2 ?_
 refine bx fun bk2=>?_
 refine s5 ?_
 refine L_loadW rfl rfl (RdC.seg (RdC.blk mm) 0 2 rfl) (by exact agg35.h) ?_
 refine L_loadW rfl rfl (RdC.old hb0) (by exact agg35.h) ?_
 refine L_binV rfl rfl rfl (bv_aeql eqsh35 (EqS.consI one3.h und3.h rfl rfl (EqS.consI one3.h und3.h rfl rfl EqS.nil))) ?_
 refine s2 ?_
 obtain rfl:=sj hp
 refine s1 ?_
 refine res1 rfl (ResOK.tmp rfl) ⟨rfl,rfl⟩ ms
noncomputable def sl_IndexFunc_implInstimplInst (a0:List D_Inst) (a1:D_Inst→Option Bool):Option Int :=
 whileP (fun s1:Int=>cond (decide (s1 < (a0.length:Int))) (Option.bind (idx a0 s1) (fun y3=>Option.bind (a1 ((y3.1.1,y3.1.2),y3.2.1,y3.2.2.1,y3.2.2.2.1,(y3.2.2.2.2.1.1,y3.2.2.2.2.1.2.1,y3.2.2.2.2.1.2.2.1,y3.2.2.2.2.1.2.2.2.1,y3.2.2.2.2.1.2.2.2.2.1,y3.2.2.2.2.1.2.2.2.2.2.1,y3.2.2.2.2.1.2.2.2.2.2.2.1,y3.2.2.2.2.1.2.2.2.2.2.2.2),y3.2.2.2.2.2.1,y3.2.2.2.2.2.2.1,y3.2.2.2.2.2.2.2)) (fun y4=>cond y4 (Option.map .inr (some s1)) (some (.inl (IntKind.wrap .i64 (s1+1))))))) (Option.map .inr (some (-1)))) 0
theorem sl_IndexFunc_implInstimplInst_walk (w:World) (a0:TL T_Inst) (f1:Nat) (cs1:List Value) (a1:D_Inst→Option Bool) (h0:GT.rd w [] a0) (hf1:IsFn Tryz.prog f1) (hk1:∀ (w':World) (F:List HP) (u0:T_Inst) (v:Bool),Holds w [] F w'→GT.rd w' [] u0→a1 (GT.dat u0)=some v→Spec Tryz.prog f1 ([Value.agg (GT.cells u0).toArray]++cs1).toArray w' [] (IsV (.bool v))) (r:Int) (hp:sl_IndexFunc_implInstimplInst (GT.dat a0) a1=some r):Spec Tryz.prog 133 [(TL.hdr a0),.func (.func f1) #[] cs1.toArray].toArray w [] (IsV (.int .i64 r)):=by
 refine Spec.intro Tryz.func133 rfl Tryz.ntmps133 rfl ?_
 unfold sl_IndexFunc_implInstimplInst at hp
 replace hp:=dd hp
 refine s12 ?_
 refine W_while (σ:=Int) GT.dat (fun (v1_0:Int)=>[(8,.int .i64 v1_0)]) (fun (v1_0:Int)=>[]) [(0,_),(1,_),(7,_)] [] 0 hp sb ms ?_
 clear hp
 rintro v1_0 x1 hp hx1
 replace hp:=dd hp
 refine kq [0,1,7,8] ?_
 refine s5 ?_
 refine kp [0,1,7,8,9] ?_
 refine W_cond rfl (fun q2=>?_) (fun q2=>?_)
 ·replace hp:=cond_t q2 hp
  refine s13 ?_
  replace hp:=idx_bind hp;obtain ⟨⟨⟨u3_1,u3_2⟩,u3_3,u3_4,u3_5,⟨u3_6,u3_7,u3_8,u3_9,u3_10,u3_11,u3_12,u3_13⟩,u3_14,u3_15,u3_16⟩,hy3,hp⟩:=hp
  refine L_idxA (X:=a0) rfl rfl rfl el41.h (RdT.old h0) hy3 ?_
  refine L_loadW rfl rfl (RdT.at (RdT.old h0) (hy3).2) (by exact agg48.h) ?_
  replace hp:=ba hp;obtain ⟨y4,hy4,hp⟩:=hp
  refine L_callVX rfl rfl hf1 rfl (by exact fun w hw=>hk1 w _ ((u3_1,u3_2),u3_3,u3_4,u3_5,(u3_6,u3_7,u3_8,u3_9,u3_10,u3_11,u3_12,u3_13),u3_14,u3_15,u3_16) y4 hw (RdT.now (RdT.pair (RdT.pair RdT.int RdT.int) (RdT.pair RdT.int (RdT.pair RdT.int (RdT.pair RdT.int (RdT.pair (RdT.pair RdT.int (RdT.pair RdT.int (RdT.pair RdT.int (RdT.pair RdT.str (RdT.pair RdT.str (RdT.pair RdT.str (RdT.pair RdT.int (RdT.snd (RdT.snd (RdT.snd (RdT.snd (RdT.snd (RdT.snd (RdT.snd (RdT.fst (RdT.snd (RdT.snd (RdT.snd (RdT.snd (RdT.of (RdT.old h0) (hy3).2)))))))))))))))))))) (RdT.pair RdT.int (RdT.pair (RdT.fst (RdT.snd (RdT.snd (RdT.snd (RdT.snd (RdT.snd (RdT.snd (RdT.of (RdT.old h0) (hy3).2)))))))) RdT.bool))))))) hw) hy4) ?_
  refine s1 ?_
  refine kp [0,1,5,7,8,16] ?_
  refine W_cond rfl (fun q5=>?_) (fun q5=>?_)
  ·replace hp:=cond_t q5 hp
   refine s5 ?_
   replace hp:=map_any hp;obtain ⟨a6,hp,z_6⟩:=hp
   obtain rfl:=hx1 _ z_6
   obtain rfl:=sj hp
   refine s1 ?_
   refine res1 rfl (ResOK.tmp rfl) ⟨rfl,rfl⟩ ms
  ·replace hp:=cond_f q5 hp
   refine s5 ?_
   exact ⟨IntKind.wrap .i64 (v1_0+1),sb,(.sub ms),some_eq hp⟩
 ·replace hp:=cond_f q2 hp
  refine W_exit ?_
  replace hp:=map_any hp;obtain ⟨a7,hp,z_7⟩:=hp
  obtain rfl:=hx1 _ z_7
  refine s4 ?_
  obtain rfl:=sj hp
  refine s1 ?_
  refine res1 rfl (ResOK.tmp rfl) ⟨rfl,rfl⟩ ms
noncomputable def i_instAt (a0:List D_Inst) (a1:D_Id):Option Int :=
 Option.bind (sl_IndexFunc_implInstimplInst a0 (fun z0=>i_instAt_c1 z0 (a1.1,a1.2))) (fun y1=>some y1)
theorem i_instAt_walk (w:World) (a0:TL T_Inst) (a1:T_Id) (h0:GT.rd w [] a0) (h1:GT.rd w [] a1) (r:Int) (hp:i_instAt (GT.dat a0) (GT.dat a1)=some r):Spec Tryz.prog 86 [(TL.hdr a0),.agg (GT.cells a1).toArray].toArray w [] (IsV (.int .i64 r)):=by
 obtain ⟨a1_1,a1_2⟩:=a1
 change Spec _ _ ([(TL.hdr a0),Value.agg #[.int .i64 a1_1,.int .i64 a1_2]]:List Value).toArray w [] _
 refine Spec.intro Tryz.func86 rfl Tryz.ntmps86 rfl ?_
 unfold i_instAt at hp
 replace hp:=dd hp
 refine s2 ?_
 refine bx fun bk3=>?_
 refine s5 ?_
 refine L_makeFunc (fs:=[]) (cs:=[.tmp 3]) rfl rfl rfl ?_
 replace hp:=ba hp;obtain ⟨y1,hy1,hp⟩:=hp
 refine L_callX rfl fn133.h rfl (by exact fun w hw=>sl_IndexFunc_implInstimplInst_walk w a0 134 [Value.pointer (some ⟨bk3,0,none⟩)] (fun z0=>i_instAt_c1 z0 (a1_1,a1_2)) (RdT.now (RdT.old h0) hw) fn134.h (fun w' F u0 v hF hu0 hv=>i_instAt_c1_walk w' u0 bk3 (a1_1,a1_2) hu0 ((cells_of_blk mm hw.sees).carry hF) (rd_carry (RdT.now (RdT.pair RdT.int RdT.int) hw) hF) v hv) _ hy1) ?_
 refine s2 ?_
 obtain rfl:=sj hp
 refine s1 ?_
 refine res1 rfl (ResOK.tmp rfl) ⟨rfl,rfl⟩ ms
noncomputable def i_InstAt (a0:List D_Inst) (a1:D_Id):Option D_Inst :=
 Option.bind (i_instAt a0 (a1.1,a1.2)) (fun y1=>cond (decide (0≤y1)) (Option.bind (idx a0 y1) (fun y3=>Option.bind (i_copyInst ((y3.1.1,y3.1.2),y3.2.1,y3.2.2.1,y3.2.2.2.1,(y3.2.2.2.2.1.1,y3.2.2.2.2.1.2.1,y3.2.2.2.2.1.2.2.1,y3.2.2.2.2.1.2.2.2.1,y3.2.2.2.2.1.2.2.2.2.1,y3.2.2.2.2.1.2.2.2.2.2.1,y3.2.2.2.2.1.2.2.2.2.2.2.1,y3.2.2.2.2.1.2.2.2.2.2.2.2),y3.2.2.2.2.2.1,y3.2.2.2.2.2.2.1,y3.2.2.2.2.2.2.2)) (fun y4=>some ((y4.1.1,y4.1.2),y4.2.1,y4.2.2.1,y4.2.2.2.1,(y4.2.2.2.2.1.1,y4.2.2.2.2.1.2.1,y4.2.2.2.2.1.2.2.1,y4.2.2.2.2.1.2.2.2.1,y4.2.2.2.2.1.2.2.2.2.1,y4.2.2.2.2.1.2.2.2.2.2.1,y4.2.2.2.2.1.2.2.2.2.2.2.1,y4.2.2.2.2.1.2.2.2.2.2.2.2),y4.2.2.2.2.2.1,y4.2.2.2.2.2.2.1,y4.2.2.2.2.2.2.2)))) (some ((a1.1,a1.2),(-1),(-1),0,(0,0,0,ByteArray.empty,ByteArray.empty,ByteArray.empty,0,([]:List ByteArray)),0,([]:List D_Id),false)))
theorem i_InstAt_walk (w:World) (a0:TL T_Inst) (a1:T_Id) (h0:GT.rd w [] a0) (h1:GT.rd w [] a1) (r:D_Inst) (hp:i_InstAt (GT.dat a0) (GT.dat a1)=some r):Spec Tryz.prog 41 [(TL.hdr a0),.agg (GT.cells a1).toArray].toArray w [] (fun v M=>∃ (x0:T_Inst),v=.agg (GT.cells x0).toArray∧GT.dat x0=r∧M=[treeH x0]):=by
 obtain ⟨a1_1,a1_2⟩:=a1
 change Spec _ _ ([(TL.hdr a0),Value.agg #[.int .i64 a1_1,.int .i64 a1_2]]:List Value).toArray w [] _
 refine Spec.intro Tryz.func41 rfl Tryz.ntmps41 rfl ?_
 unfold i_InstAt at hp
 replace hp:=dd hp
 refine s2 ?_
 refine bx fun bk3=>?_
 refine al fun bk4=>?_
 refine s6 ?_
 replace hp:=ba hp;obtain ⟨y1,hy1,hp⟩:=hp
 refine L_callX rfl fn86.h rfl (by exact fun w hw=>i_instAt_walk w a0 (a1_1,a1_2) (RdT.now (RdT.old h0) hw) (RdT.now (RdT.pair RdT.int RdT.int) hw) _ hy1) ?_
 refine s7 ?_
 refine kp [0,3,4,5,10] ?_
 refine W_cond rfl (fun q2=>?_) (fun q2=>?_)
 ·replace hp:=cond_t q2 hp
  refine s4 ?_
  replace hp:=idx_bind hp;obtain ⟨⟨⟨u3_1,u3_2⟩,u3_3,u3_4,u3_5,⟨u3_6,u3_7,u3_8,u3_9,u3_10,u3_11,u3_12,u3_13⟩,u3_14,u3_15,u3_16⟩,hy3,hp⟩:=hp
  refine L_idxA (X:=a0) rfl rfl rfl el41.h (RdT.old h0) hy3 ?_
  refine L_loadW rfl rfl (RdT.at (RdT.old h0) (hy3).2) (by exact agg48.h) ?_
  replace hp:=ba hp;obtain ⟨y4,hy4,hp⟩:=hp
  refine L_callR rfl fn87.h rfl (by exact fun w hw=>i_copyInst_walk w ((u3_1,u3_2),u3_3,u3_4,u3_5,(u3_6,u3_7,u3_8,u3_9,u3_10,u3_11,u3_12,u3_13),u3_14,u3_15,u3_16) (RdT.now (RdT.pair (RdT.pair RdT.int RdT.int) (RdT.pair RdT.int (RdT.pair RdT.int (RdT.pair RdT.int (RdT.pair (RdT.pair RdT.int (RdT.pair RdT.int (RdT.pair RdT.int (RdT.pair RdT.str (RdT.pair RdT.str (RdT.pair RdT.str (RdT.pair RdT.int (RdT.snd (RdT.snd (RdT.snd (RdT.snd (RdT.snd (RdT.snd (RdT.snd (RdT.fst (RdT.snd (RdT.snd (RdT.snd (RdT.snd (RdT.of (RdT.old h0) (hy3).2)))))))))))))))))))) (RdT.pair RdT.int (RdT.pair (RdT.fst (RdT.snd (RdT.snd (RdT.snd (RdT.snd (RdT.snd (RdT.snd (RdT.of (RdT.old h0) (hy3).2)))))))) RdT.bool))))))) hw) _ hy4) ?_
  rintro _ _ ⟨⟨⟨y4x0_1,y4x0_2⟩,y4x0_3,y4x0_4,y4x0_5,⟨y4x0_6,y4x0_7,y4x0_8,y4x0_9,y4x0_10,y4x0_11,y4x0_12,y4x0_13⟩,y4x0_14,y4x0_15,y4x0_16⟩,rfl,rfl,rfl⟩
  refine sc ?_
  replace hp:=dd hp
  refine xL (((y4x0_1,y4x0_2),y4x0_3,y4x0_4,y4x0_5,(y4x0_6,y4x0_7,y4x0_8,y4x0_9,y4x0_10,y4x0_11,y4x0_12,y4x0_13),y4x0_14,y4x0_15,y4x0_16):T_Inst) ?_
  refine s2 ?_
  obtain rfl:=sj hp
  refine jW (((y4x0_1,y4x0_2),y4x0_3,y4x0_4,y4x0_5,(y4x0_6,y4x0_7,y4x0_8,y4x0_9,y4x0_10,y4x0_11,y4x0_12,y4x0_13),y4x0_14,y4x0_15,y4x0_16):T_Inst) ?_
  refine s1 ?_
  refine res1 rfl (ResOK.cell rfl mm (by exact agg48.h)) ⟨((y4x0_1,y4x0_2),y4x0_3,y4x0_4,y4x0_5,(y4x0_6,y4x0_7,y4x0_8,y4x0_9,y4x0_10,y4x0_11,y4x0_12,y4x0_13),y4x0_14,y4x0_15,y4x0_16),rfl,rfl,rfl⟩ ms
 ·replace hp:=cond_f q2 hp
  refine s4 ?_
  refine L_build (xs:=[(0,.tmp 16),(1,.const (.int .i64 (-1))),(2,.const (.int .i64 (-1)))]) (cs:=[.int .i64 a1_1,.int .i64 a1_2,.int .i64 (-1),.int .i64 (-1),.int .i64 0,.int .i64 0,.int .i64 0,.int .i64 0,.string ByteArray.empty,.string ByteArray.empty,.string ByteArray.empty,.int .i64 0,(TL.hdr (TL.nil ByteArray 0)),.int .i64 0,(TL.hdr (TL.nil T_Id 0)),.bool false]) rfl rfl bld48.h rfl ?_
  refine s2 ?_
  obtain rfl:=sj hp
  refine W_conv (M':=treeH (TL.nil ByteArray 0)::_) (fun w h=>addNilT (τ:=ByteArray) 0 h) ?_
  refine W_conv (M':=treeH (TL.nil T_Id 0)::_) (fun w h=>addNilT (τ:=T_Id) 0 h) ?_
  refine jW (((a1_1,a1_2),(-1),(-1),0,(0,0,0,ByteArray.empty,ByteArray.empty,ByteArray.empty,0,(TL.nil ByteArray 0)),0,(TL.nil T_Id 0),false):T_Inst) ?_
  refine s1 ?_
  refine res1 rfl (ResOK.cell rfl mm (by exact agg48.h)) ⟨((a1_1,a1_2),(-1),(-1),0,(0,0,0,ByteArray.empty,ByteArray.empty,ByteArray.empty,0,(TL.nil ByteArray 0)),0,(TL.nil T_Id 0),false),rfl,rfl,rfl⟩ ms
noncomputable def s_l9Lead (a0:D_Lead):Option Bool :=
 Option.bind (s_l8Id (a0.1.1,a0.1.2)) (fun y1=>gb (!(!y1)) (s_l1In a0.2.1 0 600) (fun y2=>gb (!((!y1)||(!y2))) (s_l1In a0.2.2.1 1 3) (fun y3=>gb (!(((!y1)||(!y2))||(!y3))) (s_l1In a0.2.2.2.1 0 60) (fun y4=>gb (!((((!y1)||(!y2))||(!y3))||(!y4))) (s_IdsOk a0.2.2.2.2.1) (fun y5=>gb (!(((((!y1)||(!y2))||(!y3))||(!y4))||(!y5))) (s_l8Has a0.2.2.2.2.1 (a0.1.1,a0.1.2)) (fun y6=>cond (((((((!y1)||(!y2))||(!y3))||(!y4))||(!y5))||y6)||(decide (3 < (a0.2.2.2.2.2.1.length:Int)))) (some false) (whileP (fun s8:Int=>cond (decide (s8 < (a0.2.2.2.2.2.1.length:Int))) (Option.bind (idx a0.2.2.2.2.2.1 s8) (fun y10=>Option.bind (s_l9Node y10) (fun y11=>gb ((!(!y11))&&(decide (0 < s8))) (idx a0.2.2.2.2.2.1 (IntKind.wrap .i64 (s8 - 1))) (fun y12=>gb ((!(!y11))&&(decide (0 < s8))) (idx a0.2.2.2.2.2.1 s8) (fun y13=>cond ((!y11)||((decide (0 < s8))&&(decide (y13≤y12)))) (Option.map .inr (some false)) (some (.inl (IntKind.wrap .i64 (s8+1))))))))) (Option.map .inr (some true))) 0)))))))
theorem s_l9Lead_walk (w:World) (a0:T_Lead) (h0:GT.rd w [] a0) (r:Bool) (hp:s_l9Lead (GT.dat a0)=some r):Spec Tryz.prog 138 [.agg (GT.cells a0).toArray].toArray w [] (IsV (.bool r)):=by
 obtain ⟨⟨a0_1,a0_2⟩,a0_3,a0_4,a0_5,a0_6,a0_7,a0_8⟩:=a0
 change Spec _ _ ([Value.agg #[.int .i64 a0_1,.int .i64 a0_2,.int .i64 a0_3,.int .i64 a0_4,.int .i64 a0_5,(TL.hdr a0_6),(TL.hdr a0_7),.bool a0_8]]:List Value).toArray w [] _
 refine Spec.intro Tryz.func138 rfl Tryz.ntmps138 rfl ?_
 unfold s_l9Lead at hp
 replace hp:=dd hp
 refine s2 ?_
 refine bx fun bk1=>?_
 refine s4 ?_
 replace hp:=ba hp;obtain ⟨y1,hy1,hp⟩:=hp
 replace hp:=gb_any hp;obtain ⟨y2,hy2,hp⟩:=hp
 replace hp:=gb_any hp;obtain ⟨y3,hy3,hp⟩:=hp
 replace hp:=gb_any hp;obtain ⟨y4,hy4,hp⟩:=hp
 replace hp:=gb_any hp;obtain ⟨y5,hy5,hp⟩:=hp
 replace hp:=gb_any hp;obtain ⟨y6,hy6,hp⟩:=hp
 refine W_D0 [44] mix (by kernel_rfl) rfl ?_
 refine s1 ?_
 refine D_loadW GC.none (OpV.t rfl) (fun hg=>RdC.seg (RdC.blk mm) 0 2 rfl) (by exact agg35.h) ?_
 refine D_callX GC.none fn140.h (OpVs.cons (OpV.t rfl) (OpVs.nil)) (by exact fun hg w F hF hM=>s_l8Id_walk w (a0_1,a0_2) (RdT.nowS (RdT.pair RdT.int RdT.int) hF hM) _ hy1) ?_
 refine s4 ?_
 refine D_callX (GC.some rfl rfl) fn83.h (OpVs.cons (OpV.s rfl) (OpVs.cons OpV.c (OpVs.cons OpV.c (OpVs.nil)))) (by exact fun hg w F hF hM=>s_l1In_walk w a0_3 0 600  _ (hy2 (gnot hg.2))) ?_
 refine s5 ?_
 refine D_callX (GC.some rfl rfl) fn83.h (OpVs.cons (OpV.s rfl) (OpVs.cons OpV.c (OpVs.cons OpV.c (OpVs.nil)))) (by exact fun hg w F hF hM=>s_l1In_walk w a0_4 1 3  _ (hy3 (gnot hg.2))) ?_
 refine s5 ?_
 refine D_callX (GC.some rfl rfl) fn83.h (OpVs.cons (OpV.s rfl) (OpVs.cons OpV.c (OpVs.cons OpV.c (OpVs.nil)))) (by exact fun hg w F hF hM=>s_l1In_walk w a0_5 0 60  _ (hy4 (gnot hg.2))) ?_
 refine s5 ?_
 refine D_callX (GC.some rfl rfl) fn141.h (OpVs.cons (OpV.s rfl) (OpVs.nil)) (by exact fun hg w F hF hM=>s_IdsOk_walk w a0_6 (RdT.nowS (RdT.old h0.2.2.2.2.1) hF hM) _ (hy5 (gnot hg.2))) ?_
 refine s6 ?_
 refine D_loadW (GC.some rfl rfl) (OpV.s rfl) (fun hg=>RdC.seg (RdC.blk mm) 0 2 rfl) (by exact agg35.h) ?_
 refine D_callX (GC.some rfl rfl) fn142.h (OpVs.cons (OpV.s rfl) (OpVs.cons (OpV.s rfl) (OpVs.nil))) (by exact fun hg w F hF hM=>s_l8Has_walk w a0_6 (a0_1,a0_2) (RdT.nowS (RdT.old h0.2.2.2.2.1) hF hM) (RdT.nowS (RdT.pair RdT.int RdT.int) hF hM) _ (hy6 (gnot hg.2))) ?_
 refine s4 ?_
 refine D_lenP (X:=a0_7) (GC.some rfl rfl) (OpV.s rfl) el78.h ?_
 refine s20 ?_
 refine s20 ?_
 refine s5 ?_
 refine kp [1,44] ?_
 refine W_cond rfl (fun q7=>?_) (fun q7=>?_)
 ·replace hp:=cond_t q7 hp
  refine s4 ?_
  obtain rfl:=sj hp
  refine s1 ?_
  refine res1 rfl (ResOK.tmp rfl) ⟨rfl,rfl⟩ ms
 ·replace hp:=cond_f q7 hp
  refine s7 ?_
  refine W_while (σ:=Int) GT.dat (fun (v8_0:Int)=>[(3,.int .i64 v8_0)]) (fun (v8_0:Int)=>[]) [(1,_)] [blk bk1 _ _] 0 hp sb ms ?_
  clear hp
  rintro v8_0 x8 hp hx8
  replace hp:=dd hp
  refine kq [1,3] ?_
  refine s9 ?_
  refine kp [1,3,49] ?_
  refine W_cond rfl (fun q9=>?_) (fun q9=>?_)
  ·replace hp:=cond_t q9 hp
   refine s4 ?_
   replace hp:=idx_bind hp;obtain ⟨u10,hy10,hp⟩:=hp
   replace hp:=ba hp;obtain ⟨y11,hy11,hp⟩:=hp
   replace hp:=idx_gb hp;obtain ⟨u12,hy12,hp⟩:=hp
   replace hp:=idx_gb hp;obtain ⟨u13,hy13,hp⟩:=hp
   refine W_D0 [76] mix (by kernel_rfl) rfl ?_
   refine s3 ?_
   refine D_idxA (X:=a0_7) GC.none (OpV.t rfl) (OpV.t rfl) el78.h (RdT.old h0.2.2.2.2.2.1) (fun _=>hy10) ?_
   refine D_load0 GC.none (OpV.t rfl) (fun hg=>RdT.at (RdT.old h0.2.2.2.2.2.1) (hy10).2) one3.h rfl ?_
   refine D_callX GC.none fn136.h (OpVs.cons (OpV.t rfl) (OpVs.nil)) (by exact fun hg w F hF hM=>s_l9Node_walk w u10  _ hy11) ?_
   refine s9 ?_
   refine D_idxA (X:=a0_7) (GC.some rfl rfl) (OpV.s rfl) (OpV.s rfl) el78.h (RdT.old h0.2.2.2.2.2.1) (fun hg=>hy12 (gand (gnot hg.1.2) hg.2)) ?_
   refine D_load0 (GC.some rfl rfl) (OpV.s rfl) (fun hg=>RdT.at (RdT.old h0.2.2.2.2.2.1) (hy12 (gand (gnot hg.1.2) hg.2)).2) one3.h rfl ?_
   refine s3 ?_
   refine D_idxA (X:=a0_7) (GC.some rfl rfl) (OpV.s rfl) (OpV.s rfl) el78.h (RdT.old h0.2.2.2.2.2.1) (fun hg=>hy13 (gand (gnot hg.1.2) hg.2)) ?_
   refine D_load0 (GC.some rfl rfl) (OpV.s rfl) (fun hg=>RdT.at (RdT.old h0.2.2.2.2.2.1) (hy13 (gand (gnot hg.1.2) hg.2)).2) one3.h rfl ?_
   refine s20 ?_
   refine s10 ?_
   refine kp [1,3,76] ?_
   refine W_cond rfl (fun q14=>?_) (fun q14=>?_)
   ·replace hp:=cond_t q14 hp
    refine s4 ?_
    replace hp:=map_any hp;obtain ⟨a15,hp,z_15⟩:=hp
    obtain rfl:=hx8 _ z_15
    obtain rfl:=sj hp
    refine s1 ?_
    refine res1 rfl (ResOK.tmp rfl) ⟨rfl,rfl⟩ ms
   ·replace hp:=cond_f q14 hp
    refine s6 ?_
    exact ⟨IntKind.wrap .i64 (v8_0+1),sb,(.sub ms),some_eq hp⟩
  ·replace hp:=cond_f q9 hp
   refine W_exit ?_
   replace hp:=map_any hp;obtain ⟨a16,hp,z_16⟩:=hp
   obtain rfl:=hx8 _ z_16
   refine s4 ?_
   obtain rfl:=sj hp
   refine s1 ?_
   refine res1 rfl (ResOK.tmp rfl) ⟨rfl,rfl⟩ ms
noncomputable def s_l9At (a0:D_ENode) (a1:D_Id):Option Int :=
 whileP (fun s1:Int=>cond (decide (s1 < (a0.2.2.2.length:Int))) (Option.bind (idx a0.2.2.2 s1) (fun y3=>cond (decide (y3.1.1=a1.1)&&(decide (y3.1.2=a1.2)&&true)) (Option.map .inr (some s1)) (some (.inl (IntKind.wrap .i64 (s1+1)))))) (Option.map .inr (some (-1)))) 0
theorem s_l9At_walk (w:World) (a0:T_ENode) (a1:T_Id) (h0:GT.rd w [] a0) (h1:GT.rd w [] a1) (r:Int) (hp:s_l9At (GT.dat a0) (GT.dat a1)=some r):Spec Tryz.prog 139 [.agg (GT.cells a0).toArray,.agg (GT.cells a1).toArray].toArray w [] (IsV (.int .i64 r)):=by
 obtain ⟨a0_1,a0_2,a0_3,a0_4⟩:=a0
 obtain ⟨a1_1,a1_2⟩:=a1
 change Spec _ _ ([Value.agg #[.int .i64 a0_1,.int .i64 a0_2,(TL.hdr a0_3),(TL.hdr a0_4)],Value.agg #[.int .i64 a1_1,.int .i64 a1_2]]:List Value).toArray w [] _
 refine Spec.intro Tryz.func139 rfl Tryz.ntmps139 rfl ?_
 unfold s_l9At at hp
 replace hp:=dd hp
 refine s2 ?_
 refine bx fun bk2=>?_
 refine bx fun bk3=>?_
 refine s8 ?_
 refine W_while (σ:=Int) GT.dat (fun (v1_0:Int)=>[(5,.int .i64 v1_0)]) (fun (v1_0:Int)=>[]) [(2,_),(3,_)] [blk bk2 _ _,blk bk3 _ _] 0 hp sb ms ?_
 clear hp
 rintro v1_0 x1 hp hx1
 replace hp:=dd hp
 refine kq [2,3,5] ?_
 refine s9 ?_
 refine kp [2,3,5,10] ?_
 refine W_cond rfl (fun q2=>?_) (fun q2=>?_)
 ·replace hp:=cond_t q2 hp
  refine s4 ?_
  replace hp:=idx_bind hp;obtain ⟨⟨⟨u3_1,u3_2⟩,u3_3,u3_4,u3_5,u3_6,u3_7,u3_8⟩,hy3,hp⟩:=hp
  refine W_D0 [20] mix (by kernel_rfl) rfl ?_
  refine s3 ?_
  refine D_idxA (X:=a0_4) GC.none (OpV.t rfl) (OpV.t rfl) el42.h (RdT.old h0.2.2.2) (fun _=>hy3) ?_
  refine s1 ?_
  refine D_loadW GC.none (OpV.t rfl) (fun hg=>RdC.seg (RdT.at (RdT.old h0.2.2.2) (hy3).2) 0 2 rfl) (by exact agg35.h) ?_
  refine s1 ?_
  refine D_bin GC.none (OpV.t rfl) (OpV.t rfl) (fun hg=>(bv_aeql eqsh35 (EqS.consI one3.h und3.h rfl rfl (EqS.consI one3.h und3.h rfl rfl EqS.nil)))) ?_
  refine s10 ?_
  refine kp [2,3,5,20] ?_
  refine W_cond rfl (fun q4=>?_) (fun q4=>?_)
  ·replace hp:=cond_t q4 hp
   refine s5 ?_
   replace hp:=map_any hp;obtain ⟨a5,hp,z_5⟩:=hp
   obtain rfl:=hx1 _ z_5
   obtain rfl:=sj hp
   refine s1 ?_
   refine res1 rfl (ResOK.tmp rfl) ⟨rfl,rfl⟩ ms
  ·replace hp:=cond_f q4 hp
   refine s6 ?_
   exact ⟨IntKind.wrap .i64 (v1_0+1),sb,(.sub ms),some_eq hp⟩
 ·replace hp:=cond_f q2 hp
  refine W_exit ?_
  replace hp:=map_any hp;obtain ⟨a6,hp,z_6⟩:=hp
  obtain rfl:=hx1 _ z_6
  refine s4 ?_
  obtain rfl:=sj hp
  refine s1 ?_
  refine res1 rfl (ResOK.tmp rfl) ⟨rfl,rfl⟩ ms
noncomputable def s_ENodeOk (a0:D_ENode):Option Bool :=
 Option.bind (s_l9Node a0.1) (fun y1=>gb (!(!y1)) (s_l1In a0.2.1 1 7) (fun y2=>gb (!((!y1)||(!y2))) (s_InstsOk a0.2.2.1) (fun y3=>cond ((((!y1)||(!y2))||(!y3))||(decide (8 < (a0.2.2.2.length:Int)))) (some false) (whileP (fun s5:Int=>cond (decide (s5 < (a0.2.2.1.length:Int))) (Option.bind (idx a0.2.2.1 s5) (fun y7=>gb (decide (y7.1.1=a0.1)) (idx a0.2.2.1 s5) (fun y8=>cond ((decide (y7.1.1=a0.1))&&(decide (a0.2.1≤y8.1.2))) (Option.map .inr (some false)) (some (.inl (IntKind.wrap .i64 (s5+1))))))) (Option.map .inr (whileP (fun s12:Int=>cond (decide (s12 < (a0.2.2.2.length:Int))) (Option.bind (idx a0.2.2.2 s12) (fun y14=>Option.bind (s_l9Lead ((y14.1.1,y14.1.2),y14.2.1,y14.2.2.1,y14.2.2.2.1,y14.2.2.2.2.1,y14.2.2.2.2.2.1,y14.2.2.2.2.2.2)) (fun y15=>gb (!(!y15)) (idx a0.2.2.2 s12) (fun y16=>gb (!(!y15)) (s_l9At (a0.1,a0.2.1,a0.2.2.1,a0.2.2.2) (y16.1.1,y16.1.2)) (fun y17=>cond ((!y15)||(!decide (y17=s12))) (Option.map .inr (some false)) (some (.inl (IntKind.wrap .i64 (s12+1))))))))) (Option.map .inr (some true))) 0))) 0))))
theorem s_ENodeOk_walk (w:World) (a0:T_ENode) (h0:GT.rd w [] a0) (r:Bool) (hp:s_ENodeOk (GT.dat a0)=some r):Spec Tryz.prog 88 [.agg (GT.cells a0).toArray].toArray w [] (IsV (.bool r)):=by
 obtain ⟨a0_1,a0_2,a0_3,a0_4⟩:=a0
 change Spec _ _ ([Value.agg #[.int .i64 a0_1,.int .i64 a0_2,(TL.hdr a0_3),(TL.hdr a0_4)]]:List Value).toArray w [] _
 refine Spec.intro Tryz.func88 rfl Tryz.ntmps88 rfl ?_
 unfold s_ENodeOk at hp
 replace hp:=dd hp
 refine s2 ?_
 refine bx fun bk1=>?_
 refine s4 ?_
 replace hp:=ba hp;obtain ⟨y1,hy1,hp⟩:=hp
 replace hp:=gb_any hp;obtain ⟨y2,hy2,hp⟩:=hp
 replace hp:=gb_any hp;obtain ⟨y3,hy3,hp⟩:=hp
 refine W_D0 [26] mix (by kernel_rfl) rfl ?_
 refine s2 ?_
 refine D_callX GC.none fn136.h (OpVs.cons (OpV.t rfl) (OpVs.nil)) (by exact fun hg w F hF hM=>s_l9Node_walk w a0_1  _ hy1) ?_
 refine s4 ?_
 refine D_callX (GC.some rfl rfl) fn83.h (OpVs.cons (OpV.s rfl) (OpVs.cons OpV.c (OpVs.cons OpV.c (OpVs.nil)))) (by exact fun hg w F hF hM=>s_l1In_walk w a0_2 1 7  _ (hy2 (gnot hg.2))) ?_
 refine s5 ?_
 refine D_callX (GC.some rfl rfl) fn137.h (OpVs.cons (OpV.s rfl) (OpVs.nil)) (by exact fun hg w F hF hM=>s_InstsOk_walk w a0_3 (RdT.nowS (RdT.old h0.2.2.1) hF hM) _ (hy3 (gnot hg.2))) ?_
 refine s5 ?_
 refine D_lenP (X:=a0_4) (GC.some rfl rfl) (OpV.s rfl) el42.h ?_
 refine s20 ?_
 refine s6 ?_
 refine kp [1,26] ?_
 refine W_cond rfl (fun q4=>?_) (fun q4=>?_)
 ·replace hp:=cond_t q4 hp
  refine s4 ?_
  obtain rfl:=sj hp
  refine s1 ?_
  refine res1 rfl (ResOK.tmp rfl) ⟨rfl,rfl⟩ ms
 ·replace hp:=cond_f q4 hp
  refine s7 ?_
  refine W_while (σ:=Int) GT.dat (fun (v5_0:Int)=>[(3,.int .i64 v5_0)]) (fun (v5_0:Int)=>[]) [(1,_)] [blk bk1 _ _] 0 hp sb ms ?_
  clear hp
  rintro v5_0 x5 hp hx5
  replace hp:=dd hp
  refine kq [1,3] ?_
  refine s9 ?_
  refine kp [1,3,31] ?_
  refine W_cond rfl (fun q6=>?_) (fun q6=>?_)
  ·replace hp:=cond_t q6 hp
   refine s4 ?_
   replace hp:=idx_bind hp;obtain ⟨⟨⟨u7_1,u7_2⟩,u7_3,u7_4,u7_5,⟨u7_6,u7_7,u7_8,u7_9,u7_10,u7_11,u7_12,u7_13⟩,u7_14,u7_15,u7_16⟩,hy7,hp⟩:=hp
   replace hp:=idx_gb hp;obtain ⟨⟨⟨u8_1,u8_2⟩,u8_3,u8_4,u8_5,⟨u8_6,u8_7,u8_8,u8_9,u8_10,u8_11,u8_12,u8_13⟩,u8_14,u8_15,u8_16⟩,hy8,hp⟩:=hp
   refine W_D0 [55] mix (by kernel_rfl) rfl ?_
   refine s3 ?_
   refine D_idxA (X:=a0_3) GC.none (OpV.t rfl) (OpV.t rfl) el41.h (RdT.old h0.2.2.1) (fun _=>hy7) ?_
   refine s2 ?_
   refine D_load (fo:=0) GC.none (OpV.t rfl) (fun hg=>RdT.at (RdT.old h0.2.2.1) (hy7).2) one3.h rfl ?_
   refine s7 ?_
   refine D_idxA (X:=a0_3) (GC.some rfl rfl) (OpV.s rfl) (OpV.s rfl) el41.h (RdT.old h0.2.2.1) (fun hg=>hy8 hg.2) ?_
   refine s2 ?_
   refine D_load (fo:=1) (GC.some rfl rfl) (OpV.s rfl) (fun hg=>RdT.at (RdT.old h0.2.2.1) (hy8 hg.2).2) one3.h rfl ?_
   refine s20 ?_
   refine s8 ?_
   refine kp [1,3,55] ?_
   refine W_cond rfl (fun q9=>?_) (fun q9=>?_)
   ·replace hp:=cond_t q9 hp
    refine s4 ?_
    replace hp:=map_any hp;obtain ⟨a10,hp,z_10⟩:=hp
    obtain rfl:=hx5 _ z_10
    obtain rfl:=sj hp
    refine s1 ?_
    refine res1 rfl (ResOK.tmp rfl) ⟨rfl,rfl⟩ ms
   ·replace hp:=cond_f q9 hp
    refine s6 ?_
    exact ⟨IntKind.wrap .i64 (v5_0+1),sb,(.sub ms),some_eq hp⟩
  ·replace hp:=cond_f q6 hp
   refine W_exit ?_
   replace hp:=map_any hp;obtain ⟨a11,hp,z_11⟩:=hp
   obtain rfl:=hx5 _ z_11
   refine s6 ?_
   refine W_while (σ:=Int) GT.dat (fun (v12_0:Int)=>[(4,.int .i64 v12_0)]) (fun (v12_0:Int)=>[]) [(1,_)] [blk bk1 _ _] 0 hp sb ms ?_
   clear hp
   rintro v12_0 x12 hp hx12
   replace hp:=dd hp
   refine kq [1,4] ?_
   refine s9 ?_
   refine kp [1,4,60] ?_
   refine W_cond rfl (fun q13=>?_) (fun q13=>?_)
   ·replace hp:=cond_t q13 hp
    refine s4 ?_
    replace hp:=idx_bind hp;obtain ⟨⟨⟨u14_1,u14_2⟩,u14_3,u14_4,u14_5,u14_6,u14_7,u14_8⟩,hy14,hp⟩:=hp
    replace hp:=ba hp;obtain ⟨y15,hy15,hp⟩:=hp
    replace hp:=idx_gb hp;obtain ⟨⟨⟨u16_1,u16_2⟩,u16_3,u16_4,u16_5,u16_6,u16_7,u16_8⟩,hy16,hp⟩:=hp
    replace hp:=gb_any hp;obtain ⟨y17,hy17,hp⟩:=hp
    refine W_D0 [81] mix (by kernel_rfl) rfl ?_
    refine s3 ?_
    refine D_idxA (X:=a0_4) GC.none (OpV.t rfl) (OpV.t rfl) el42.h (RdT.old h0.2.2.2) (fun _=>hy14) ?_
    refine D_loadW GC.none (OpV.t rfl) (fun hg=>RdT.at (RdT.old h0.2.2.2) (hy14).2) (by exact agg141.h) ?_
    refine D_callX GC.none fn138.h (OpVs.cons (OpV.t rfl) (OpVs.nil)) (by exact fun hg w F hF hM=>s_l9Lead_walk w ((u14_1,u14_2),u14_3,u14_4,u14_5,u14_6,u14_7,u14_8) (RdT.nowS (RdT.pair (RdT.pair RdT.int RdT.int) (RdT.pair RdT.int (RdT.pair RdT.int (RdT.pair RdT.int (RdT.pair (RdT.fst (RdT.snd (RdT.snd (RdT.snd (RdT.snd (RdT.of (RdT.old h0.2.2.2) (hy14).2)))))) (RdT.pair (RdT.fst (RdT.snd (RdT.snd (RdT.snd (RdT.snd (RdT.snd (RdT.of (RdT.old h0.2.2.2) (hy14).2))))))) RdT.bool)))))) hF hM) _ hy15) ?_
    refine s6 ?_
    refine D_idxA (X:=a0_4) (GC.some rfl rfl) (OpV.s rfl) (OpV.s rfl) el42.h (RdT.old h0.2.2.2) (fun hg=>hy16 (gnot hg.2)) ?_
    refine s1 ?_
    refine D_loadW (GC.some rfl rfl) (OpV.s rfl) (fun hg=>RdC.seg (RdT.at (RdT.old h0.2.2.2) (hy16 (gnot hg.2)).2) 0 2 rfl) (by exact agg35.h) ?_
    refine D_callX (GC.some rfl rfl) fn139.h (OpVs.cons (OpV.s rfl) (OpVs.cons (OpV.s rfl) (OpVs.nil))) (by exact fun hg w F hF hM=>s_l9At_walk w (a0_1,a0_2,a0_3,a0_4) (u16_1,u16_2) (RdT.nowS (RdT.pair RdT.int (RdT.pair RdT.int (RdT.pair (RdT.old h0.2.2.1) (RdT.old h0.2.2.2)))) hF hM) (RdT.nowS (RdT.pair RdT.int RdT.int) hF hM) _ (hy17 (gnot hg.2))) ?_
    refine s20 ?_
    refine s4 ?_
    refine kp [1,4,81] ?_
    refine W_cond rfl (fun q18=>?_) (fun q18=>?_)
    ·replace hp:=cond_t q18 hp
     refine s4 ?_
     replace hp:=map_any hp;obtain ⟨a19,hp,z_19⟩:=hp
     obtain rfl:=hx12 _ z_19
     obtain rfl:=sj hp
     refine s1 ?_
     refine res1 rfl (ResOK.tmp rfl) ⟨rfl,rfl⟩ ms
    ·replace hp:=cond_f q18 hp
     refine s6 ?_
     exact ⟨IntKind.wrap .i64 (v12_0+1),sb,(.sub ms),some_eq hp⟩
   ·replace hp:=cond_f q13 hp
    refine W_exit ?_
    replace hp:=map_any hp;obtain ⟨a20,hp,z_20⟩:=hp
    obtain rfl:=hx12 _ z_20
    refine s4 ?_
    obtain rfl:=sj hp
    refine s1 ?_
    refine res1 rfl (ResOK.tmp rfl) ⟨rfl,rfl⟩ ms
noncomputable def i_ENode_unknown (a0:D_ENode) (a1:D_Id):Option Bool :=
 some ((decide (a1.1=a0.1))&&(decide (a0.2.1≤a1.2)))
theorem i_ENode_unknown_walk (w:World) (b0_:Nat) (a0:T_ENode) (a1:T_Id) (hbb0_:Cells w [] b0_ 0 (GT.cells a0)) (h0:GT.rd w [] a0) (h1:GT.rd w [] a1) (r:Bool) (hp:i_ENode_unknown (GT.dat a0) (GT.dat a1)=some r):Spec Tryz.prog 110 [Value.pointer (some ⟨b0_,0,none⟩),.agg (GT.cells a1).toArray].toArray w [] (IsV (.bool r)):=by
 obtain ⟨a0_1,a0_2,a0_3,a0_4⟩:=a0
 obtain ⟨a1_1,a1_2⟩:=a1
 change Spec _ _ ([Value.pointer (some ⟨b0_,0,none⟩),Value.agg #[.int .i64 a1_1,.int .i64 a1_2]]:List Value).toArray w [] _
 refine Spec.intro Tryz.func110 rfl Tryz.ntmps110 rfl ?_
 unfold i_ENode_unknown at hp
 replace hp:=dd hp
 refine s2 ?_
 refine bx fun bk3=>?_
 refine s3 ?_
 refine W_D0 [4] mix (by kernel_rfl) rfl ?_
 refine s5 ?_
 refine D_load GC.none (OpV.t rfl) (fun hg=>RdC.old hbb0_) one3.h rfl ?_
 refine s7 ?_
 refine D_load (GC.some rfl rfl) (OpV.s rfl) (fun hg=>RdC.old hbb0_) one3.h rfl ?_
 refine s20 ?_
 refine s2 ?_
 obtain rfl:=sj hp
 refine s1 ?_
 refine res1 rfl (ResOK.tmp rfl) ⟨rfl,rfl⟩ ms
noncomputable def i_areDeps (a0:List D_Id) (a1:D_Id):Option Bool :=
 Option.bind (i_IdsOk a0) (fun y1=>gb y1 (sl_Contains_implIdimplId a0 (a1.1,a1.2)) (fun y2=>some (y1&&(!y2))))
theorem i_areDeps_walk (w:World) (a0:TL T_Id) (a1:T_Id) (h0:GT.rd w [] a0) (h1:GT.rd w [] a1) (r:Bool) (hp:i_areDeps (GT.dat a0) (GT.dat a1)=some r):Spec Tryz.prog 115 [(TL.hdr a0),.agg (GT.cells a1).toArray].toArray w [] (IsV (.bool r)):=by
 obtain ⟨a1_1,a1_2⟩:=a1
 change Spec _ _ ([(TL.hdr a0),Value.agg #[.int .i64 a1_1,.int .i64 a1_2]]:List Value).toArray w [] _
 refine Spec.intro Tryz.func115 rfl Tryz.ntmps115 rfl ?_
 unfold i_areDeps at hp
 replace hp:=dd hp
 refine s2 ?_
 refine bx fun bk3=>?_
 refine s3 ?_
 replace hp:=ba hp;obtain ⟨y1,hy1,hp⟩:=hp
 replace hp:=gb_any hp;obtain ⟨y2,hy2,hp⟩:=hp
 refine W_D0 [4] mix (by kernel_rfl) rfl ?_
 refine s1 ?_
 refine D_callX GC.none fn164.h (OpVs.cons (OpV.t rfl) (OpVs.nil)) (by exact fun hg w F hF hM=>i_IdsOk_walk w a0 (RdT.nowS (RdT.old h0) hF hM) _ hy1) ?_
 refine s3 ?_
 refine D_callX (GC.some rfl rfl) fn76.h (OpVs.cons (OpV.s rfl) (OpVs.cons (OpV.s rfl) (OpVs.nil))) (by exact fun hg w F hF hM=>sl_Contains_implIdimplId_walk w a0 (a1_1,a1_2) (RdT.nowS (RdT.old h0) hF hM) (RdT.nowS (RdT.pair RdT.int RdT.int) hF hM) _ (hy2 hg.2)) ?_
 refine s14 ?_
 obtain rfl:=sj hp
 refine s1 ?_
 refine res1 rfl (ResOK.tmp rfl) ⟨rfl,rfl⟩ ms
noncomputable def i_leadOk (a0:D_Lead):Option Bool :=
 whileP (fun s1:Int=>cond (decide (s1 < (a0.2.2.2.2.2.1.length:Int))) (Option.bind (idx a0.2.2.2.2.2.1 s1) (fun y3=>Option.bind (i_isRep y3) (fun y4=>gb ((!(!y4))&&(decide (0 < s1))) (idx a0.2.2.2.2.2.1 (IntKind.wrap .i64 (s1 - 1))) (fun y5=>cond ((!y4)||((decide (0 < s1))&&(decide (y3≤y5)))) (Option.map .inr (some false)) (some (.inl (IntKind.wrap .i64 (s1+1)))))))) (Option.map .inr (Option.bind (i_idOk (a0.1.1,a0.1.2)) (fun y9=>gb y9 (i_within a0.2.1 0 600) (fun y10=>gb (y9&&y10) (i_within a0.2.2.1 1 3) (fun y11=>gb ((y9&&y10)&&y11) (i_within a0.2.2.2.1 0 60) (fun y12=>gb (((y9&&y10)&&y11)&&y12) (i_areDeps a0.2.2.2.2.1 (a0.1.1,a0.1.2)) (fun y13=>some ((((y9&&y10)&&y11)&&y12)&&y13))))))))) 0
theorem i_leadOk_walk (w:World) (a0:T_Lead) (h0:GT.rd w [] a0) (r:Bool) (hp:i_leadOk (GT.dat a0)=some r):Spec Tryz.prog 111 [.agg (GT.cells a0).toArray].toArray w [] (IsV (.bool r)):=by
 obtain ⟨⟨a0_1,a0_2⟩,a0_3,a0_4,a0_5,a0_6,a0_7,a0_8⟩:=a0
 change Spec _ _ ([Value.agg #[.int .i64 a0_1,.int .i64 a0_2,.int .i64 a0_3,.int .i64 a0_4,.int .i64 a0_5,(TL.hdr a0_6),(TL.hdr a0_7),.bool a0_8]]:List Value).toArray w [] _
 refine Spec.intro Tryz.func111 rfl Tryz.ntmps111 rfl ?_
 unfold i_leadOk at hp
 replace hp:=dd hp
 refine s2 ?_
 refine bx fun bk1=>?_
 refine s11 ?_
 refine W_while (σ:=Int) GT.dat (fun (v1_0:Int)=>[(8,.int .i64 v1_0)]) (fun (v1_0:Int)=>[]) [(1,_),(6,_),(7,_)] [blk bk1 _ _] 0 hp sb ms ?_
 clear hp
 rintro v1_0 x1 hp hx1
 replace hp:=dd hp
 refine kq [1,6,7,8] ?_
 refine s5 ?_
 refine kp [1,6,7,8,9] ?_
 refine W_cond rfl (fun q2=>?_) (fun q2=>?_)
 ·replace hp:=cond_t q2 hp
  refine s6 ?_
  replace hp:=idx_bind hp;obtain ⟨u3,hy3,hp⟩:=hp
  refine L_idxA (X:=a0_7) rfl rfl rfl el78.h (RdT.old h0.2.2.2.2.2.1) hy3 ?_
  refine L_load0 rfl rfl (RdT.at (RdT.old h0.2.2.2.2.2.1) (hy3).2) one3.h rfl ?_
  refine s4 ?_
  replace hp:=ba hp;obtain ⟨y4,hy4,hp⟩:=hp
  replace hp:=idx_gb hp;obtain ⟨u5,hy5,hp⟩:=hp
  refine W_D0 [29] mix (by kernel_rfl) rfl ?_
  refine s1 ?_
  refine D_callX GC.none fn62.h (OpVs.cons (OpV.t rfl) (OpVs.nil)) (by exact fun hg w F hF hM=>i_isRep_walk w u3  _ hy4) ?_
  refine s9 ?_
  refine D_idxA (X:=a0_7) (GC.some rfl rfl) (OpV.s rfl) (OpV.s rfl) el78.h (RdT.old h0.2.2.2.2.2.1) (fun hg=>hy5 (gand (gnot hg.1.2) hg.2)) ?_
  refine D_load0 (GC.some rfl rfl) (OpV.s rfl) (fun hg=>RdT.at (RdT.old h0.2.2.2.2.2.1) (hy5 (gand (gnot hg.1.2) hg.2)).2) one3.h rfl ?_
  refine s20 ?_
  refine s3 ?_
  refine kp [1,6,7,8,29] ?_
  refine W_cond rfl (fun q6=>?_) (fun q6=>?_)
  ·replace hp:=cond_t q6 hp
   refine s4 ?_
   replace hp:=map_any hp;obtain ⟨a7,hp,z_7⟩:=hp
   obtain rfl:=hx1 _ z_7
   obtain rfl:=sj hp
   refine s1 ?_
   refine res1 rfl (ResOK.tmp rfl) ⟨rfl,rfl⟩ ms
  ·replace hp:=cond_f q6 hp
   refine s5 ?_
   exact ⟨IntKind.wrap .i64 (v1_0+1),sb,(.sub ms),some_eq hp⟩
 ·replace hp:=cond_f q2 hp
  refine W_exit ?_
  replace hp:=map_any hp;obtain ⟨a8,hp,z_8⟩:=hp
  obtain rfl:=hx1 _ z_8
  refine s1 ?_
  replace hp:=ba hp;obtain ⟨y9,hy9,hp⟩:=hp
  replace hp:=gb_any hp;obtain ⟨y10,hy10,hp⟩:=hp
  replace hp:=gb_any hp;obtain ⟨y11,hy11,hp⟩:=hp
  replace hp:=gb_any hp;obtain ⟨y12,hy12,hp⟩:=hp
  replace hp:=gb_any hp;obtain ⟨y13,hy13,hp⟩:=hp
  refine W_D0 [2] mix (by kernel_rfl) rfl ?_
  refine s1 ?_
  refine D_loadW GC.none (OpV.t rfl) (fun hg=>RdC.seg (RdC.blk mm) 0 2 rfl) (by exact agg35.h) ?_
  refine D_callX GC.none fn113.h (OpVs.cons (OpV.t rfl) (OpVs.nil)) (by exact fun hg w F hF hM=>i_idOk_walk w (a0_1,a0_2) (RdT.nowS (RdT.pair RdT.int RdT.int) hF hM) _ hy9) ?_
  refine s3 ?_
  refine D_callX (GC.some rfl rfl) fn66.h (OpVs.cons (OpV.s rfl) (OpVs.cons OpV.c (OpVs.cons OpV.c (OpVs.nil)))) (by exact fun hg w F hF hM=>i_within_walk w a0_3 0 600  _ (hy10 hg.2)) ?_
  refine s4 ?_
  refine D_callX (GC.some rfl rfl) fn66.h (OpVs.cons (OpV.s rfl) (OpVs.cons OpV.c (OpVs.cons OpV.c (OpVs.nil)))) (by exact fun hg w F hF hM=>i_within_walk w a0_4 1 3  _ (hy11 hg.2)) ?_
  refine s4 ?_
  refine D_callX (GC.some rfl rfl) fn66.h (OpVs.cons (OpV.s rfl) (OpVs.cons OpV.c (OpVs.cons OpV.c (OpVs.nil)))) (by exact fun hg w F hF hM=>i_within_walk w a0_5 0 60  _ (hy12 hg.2)) ?_
  refine s5 ?_
  refine D_loadW (GC.some rfl rfl) (OpV.s rfl) (fun hg=>RdC.seg (RdC.blk mm) 0 2 rfl) (by exact agg35.h) ?_
  refine D_callX (GC.some rfl rfl) fn115.h (OpVs.cons (OpV.s rfl) (OpVs.cons (OpV.s rfl) (OpVs.nil))) (by exact fun hg w F hF hM=>i_areDeps_walk w a0_6 (a0_1,a0_2) (RdT.nowS (RdT.old h0.2.2.2.2.1) hF hM) (RdT.nowS (RdT.pair RdT.int RdT.int) hF hM) _ (hy13 hg.2)) ?_
  refine s20 ?_
  refine s10 ?_
  obtain rfl:=sj hp
  refine s1 ?_
  refine res1 rfl (ResOK.tmp rfl) ⟨rfl,rfl⟩ ms
noncomputable def i_ENode_lead_c1 (a0:D_Lead) (c0:D_Id):Option Bool :=
 some (decide (a0.1.1=c0.1)&&(decide (a0.1.2=c0.2)&&true))
theorem i_ENode_lead_c1_walk (w:World) (a0:T_Lead) (b0:Nat) (c0:T_Id) (h0:GT.rd w [] a0) (hb0:Cells w [] b0 0 (GT.cells c0)) (q0:GT.rd w [] c0) (r:Bool) (hp:i_ENode_lead_c1 (GT.dat a0) (GT.dat c0)=some r):Spec Tryz.prog 160 ([(.agg (GT.cells a0).toArray:Value)]++[Value.pointer (some ⟨b0,0,none⟩)]).toArray w [] (IsV (.bool r)):=by
 obtain ⟨⟨a0_1,a0_2⟩,a0_3,a0_4,a0_5,a0_6,a0_7,a0_8⟩:=a0
 obtain ⟨c0_1,c0_2⟩:=c0
 change Spec _ _ ([Value.agg #[.int .i64 a0_1,.int .i64 a0_2,.int .i64 a0_3,.int .i64 a0_4,.int .i64 a0_5,(TL.hdr a0_6),(TL.hdr a0_7),.bool a0_8],Value.pointer (some ⟨b0,0,none⟩)]:List Value).toArray w [] _
 refine Spec.intro Tryz.func160 rfl Tryz.ntmps160 rfl ?_
 unfold i_ENode_lead_c1 at hp
 replace hp:=dd hp
 refine s2 ?_
 refine bx fun bk2=>?_
 refine s5 ?_
 refine L_loadW rfl rfl (RdC.seg (RdC.blk mm) 0 2 rfl) (by exact agg35.h) ?_
 refine L_loadW rfl rfl (RdC.old hb0) (by exact agg35.h) ?_
 refine L_binV rfl rfl rfl (bv_aeql eqsh35 (EqS.consI one3.h und3.h rfl rfl (EqS.consI one3.h und3.h rfl rfl EqS.nil))) ?_
 refine s2 ?_
 obtain rfl:=sj hp
 refine s1 ?_
 refine res1 rfl (ResOK.tmp rfl) ⟨rfl,rfl⟩ ms
noncomputable def sl_IndexFunc_implLeadimplLead (a0:List D_Lead) (a1:D_Lead→Option Bool):Option Int :=
 whileP (fun s1:Int=>cond (decide (s1 < (a0.length:Int))) (Option.bind (idx a0 s1) (fun y3=>Option.bind (a1 ((y3.1.1,y3.1.2),y3.2.1,y3.2.2.1,y3.2.2.2.1,y3.2.2.2.2.1,y3.2.2.2.2.2.1,y3.2.2.2.2.2.2)) (fun y4=>cond y4 (Option.map .inr (some s1)) (some (.inl (IntKind.wrap .i64 (s1+1))))))) (Option.map .inr (some (-1)))) 0
theorem sl_IndexFunc_implLeadimplLead_walk (w:World) (a0:TL T_Lead) (f1:Nat) (cs1:List Value) (a1:D_Lead→Option Bool) (h0:GT.rd w [] a0) (hf1:IsFn Tryz.prog f1) (hk1:∀ (w':World) (F:List HP) (u0:T_Lead) (v:Bool),Holds w [] F w'→GT.rd w' [] u0→a1 (GT.dat u0)=some v→Spec Tryz.prog f1 ([Value.agg (GT.cells u0).toArray]++cs1).toArray w' [] (IsV (.bool v))) (r:Int) (hp:sl_IndexFunc_implLeadimplLead (GT.dat a0) a1=some r):Spec Tryz.prog 159 [(TL.hdr a0),.func (.func f1) #[] cs1.toArray].toArray w [] (IsV (.int .i64 r)):=by
 refine Spec.intro Tryz.func159 rfl Tryz.ntmps159 rfl ?_
 unfold sl_IndexFunc_implLeadimplLead at hp
 replace hp:=dd hp
 refine s12 ?_
 refine W_while (σ:=Int) GT.dat (fun (v1_0:Int)=>[(8,.int .i64 v1_0)]) (fun (v1_0:Int)=>[]) [(0,_),(1,_),(7,_)] [] 0 hp sb ms ?_
 clear hp
 rintro v1_0 x1 hp hx1
 replace hp:=dd hp
 refine kq [0,1,7,8] ?_
 refine s5 ?_
 refine kp [0,1,7,8,9] ?_
 refine W_cond rfl (fun q2=>?_) (fun q2=>?_)
 ·replace hp:=cond_t q2 hp
  refine s13 ?_
  replace hp:=idx_bind hp;obtain ⟨⟨⟨u3_1,u3_2⟩,u3_3,u3_4,u3_5,u3_6,u3_7,u3_8⟩,hy3,hp⟩:=hp
  refine L_idxA (X:=a0) rfl rfl rfl el42.h (RdT.old h0) hy3 ?_
  refine L_loadW rfl rfl (RdT.at (RdT.old h0) (hy3).2) (by exact agg141.h) ?_
  replace hp:=ba hp;obtain ⟨y4,hy4,hp⟩:=hp
  refine L_callVX rfl rfl hf1 rfl (by exact fun w hw=>hk1 w _ ((u3_1,u3_2),u3_3,u3_4,u3_5,u3_6,u3_7,u3_8) y4 hw (RdT.now (RdT.pair (RdT.pair RdT.int RdT.int) (RdT.pair RdT.int (RdT.pair RdT.int (RdT.pair RdT.int (RdT.pair (RdT.fst (RdT.snd (RdT.snd (RdT.snd (RdT.snd (RdT.of (RdT.old h0) (hy3).2)))))) (RdT.pair (RdT.fst (RdT.snd (RdT.snd (RdT.snd (RdT.snd (RdT.snd (RdT.of (RdT.old h0) (hy3).2))))))) RdT.bool)))))) hw) hy4) ?_
  refine s1 ?_
  refine kp [0,1,5,7,8,16] ?_
  refine W_cond rfl (fun q5=>?_) (fun q5=>?_)
  ·replace hp:=cond_t q5 hp
   refine s5 ?_
   replace hp:=map_any hp;obtain ⟨a6,hp,z_6⟩:=hp
   obtain rfl:=hx1 _ z_6
   obtain rfl:=sj hp
   refine s1 ?_
   refine res1 rfl (ResOK.tmp rfl) ⟨rfl,rfl⟩ ms
  ·replace hp:=cond_f q5 hp
   refine s5 ?_
   exact ⟨IntKind.wrap .i64 (v1_0+1),sb,(.sub ms),some_eq hp⟩
 ·replace hp:=cond_f q2 hp
  refine W_exit ?_
  replace hp:=map_any hp;obtain ⟨a7,hp,z_7⟩:=hp
  obtain rfl:=hx1 _ z_7
  refine s4 ?_
  obtain rfl:=sj hp
  refine s1 ?_
  refine res1 rfl (ResOK.tmp rfl) ⟨rfl,rfl⟩ ms
noncomputable def i_ENode_lead (a0:D_ENode) (a1:D_Id):Option Int :=
 Option.bind (sl_IndexFunc_implLeadimplLead a0.2.2.2 (fun z0=>i_ENode_lead_c1 z0 (a1.1,a1.2))) (fun y1=>some y1)
theorem i_ENode_lead_walk (w:World) (b0_:Nat) (a0:T_ENode) (a1:T_Id) (hbb0_:Cells w [] b0_ 0 (GT.cells a0)) (h0:GT.rd w [] a0) (h1:GT.rd w [] a1) (r:Int) (hp:i_ENode_lead (GT.dat a0) (GT.dat a1)=some r):Spec Tryz.prog 112 [Value.pointer (some ⟨b0_,0,none⟩),.agg (GT.cells a1).toArray].toArray w [] (IsV (.int .i64 r)):=by
 obtain ⟨a0_1,a0_2,a0_3,a0_4⟩:=a0
 obtain ⟨a1_1,a1_2⟩:=a1
 change Spec _ _ ([Value.pointer (some ⟨b0_,0,none⟩),Value.agg #[.int .i64 a1_1,.int .i64 a1_2]]:List Value).toArray w [] _
 refine Spec.intro Tryz.func112 rfl Tryz.ntmps112 rfl ?_
 unfold i_ENode_lead at hp
 replace hp:=dd hp
 refine s2 ?_
 refine bx fun bk3=>?_
 refine s7 ?_
 refine L_load rfl rfl (RdC.old hbb0_) one42.h rfl ?_
 refine L_makeFunc (fs:=[]) (cs:=[.tmp 3]) rfl rfl rfl ?_
 replace hp:=ba hp;obtain ⟨y1,hy1,hp⟩:=hp
 refine L_callX rfl fn159.h rfl (by exact fun w hw=>sl_IndexFunc_implLeadimplLead_walk w a0_4 160 [Value.pointer (some ⟨bk3,0,none⟩)] (fun z0=>i_ENode_lead_c1 z0 (a1_1,a1_2)) (RdT.now (RdT.old h0.2.2.2) hw) fn160.h (fun w' F u0 v hF hu0 hv=>i_ENode_lead_c1_walk w' u0 bk3 (a1_1,a1_2) hu0 ((cells_of_blk mm hw.sees).carry hF) (rd_carry (RdT.now (RdT.pair RdT.int RdT.int) hw) hF) v hv) _ hy1) ?_
 refine s2 ?_
 obtain rfl:=sj hp
 refine s1 ?_
 refine res1 rfl (ResOK.tmp rfl) ⟨rfl,rfl⟩ ms
noncomputable def i_ENodeOk (a0:D_ENode):Option Bool :=
 Option.bind (i_isRep a0.1) (fun y1=>gb (!(!y1)) (i_within a0.2.1 1 7) (fun y2=>gb (!((!y1)||(!y2))) (i_InstsOk a0.2.2.1) (fun y3=>cond ((((!y1)||(!y2))||(!y3))||(decide (8 < (a0.2.2.2.length:Int)))) (some false) (whileP (fun s5:Int=>cond (decide (s5 < (a0.2.2.1.length:Int))) (Option.bind (idx a0.2.2.1 s5) (fun y7=>Option.bind (i_ENode_unknown (a0.1,a0.2.1,a0.2.2.1,a0.2.2.2) (y7.1.1,y7.1.2)) (fun y8=>cond y8 (Option.map .inr (some false)) (some (.inl (IntKind.wrap .i64 (s5+1))))))) (Option.map .inr (whileP (fun s12:Int=>cond (decide (s12 < (a0.2.2.2.length:Int))) (Option.bind (idx a0.2.2.2 s12) (fun y14=>Option.bind (i_leadOk ((y14.1.1,y14.1.2),y14.2.1,y14.2.2.1,y14.2.2.2.1,y14.2.2.2.2.1,y14.2.2.2.2.2.1,y14.2.2.2.2.2.2)) (fun y15=>gb (!(!y15)) (i_ENode_lead (a0.1,a0.2.1,a0.2.2.1,a0.2.2.2) (y14.1.1,y14.1.2)) (fun y16=>cond ((!y15)||(!decide (y16=s12))) (Option.map .inr (some false)) (some (.inl (IntKind.wrap .i64 (s12+1)))))))) (Option.map .inr (some true))) 0))) 0))))
theorem i_ENodeOk_walk (w:World) (a0:T_ENode) (h0:GT.rd w [] a0) (r:Bool) (hp:i_ENodeOk (GT.dat a0)=some r):Spec Tryz.prog 63 [.agg (GT.cells a0).toArray].toArray w [] (IsV (.bool r)):=by
 obtain ⟨a0_1,a0_2,a0_3,a0_4⟩:=a0
 change Spec _ _ ([Value.agg #[.int .i64 a0_1,.int .i64 a0_2,(TL.hdr a0_3),(TL.hdr a0_4)]]:List Value).toArray w [] _
 refine Spec.intro Tryz.func63 rfl Tryz.ntmps63 rfl ?_
 unfold i_ENodeOk at hp
 replace hp:=dd hp
 refine s2 ?_
 refine bx fun bk1=>?_
 refine s4 ?_
 replace hp:=ba hp;obtain ⟨y1,hy1,hp⟩:=hp
 replace hp:=gb_any hp;obtain ⟨y2,hy2,hp⟩:=hp
 replace hp:=gb_any hp;obtain ⟨y3,hy3,hp⟩:=hp
 refine W_D0 [28] mix (by kernel_rfl) rfl ?_
 refine s2 ?_
 refine D_callX GC.none fn62.h (OpVs.cons (OpV.t rfl) (OpVs.nil)) (by exact fun hg w F hF hM=>i_isRep_walk w a0_1  _ hy1) ?_
 refine s4 ?_
 refine D_callX (GC.some rfl rfl) fn66.h (OpVs.cons (OpV.s rfl) (OpVs.cons OpV.c (OpVs.cons OpV.c (OpVs.nil)))) (by exact fun hg w F hF hM=>i_within_walk w a0_2 1 7  _ (hy2 (gnot hg.2))) ?_
 refine s5 ?_
 refine D_callX (GC.some rfl rfl) fn73.h (OpVs.cons (OpV.s rfl) (OpVs.nil)) (by exact fun hg w F hF hM=>i_InstsOk_walk w a0_3 (RdT.nowS (RdT.old h0.2.2.1) hF hM) _ (hy3 (gnot hg.2))) ?_
 refine s5 ?_
 refine D_lenP (X:=a0_4) (GC.some rfl rfl) (OpV.s rfl) el42.h ?_
 refine s20 ?_
 refine s6 ?_
 refine kp [1,28] ?_
 refine W_cond rfl (fun q4=>?_) (fun q4=>?_)
 ·replace hp:=cond_t q4 hp
  refine s4 ?_
  obtain rfl:=sj hp
  refine s1 ?_
  refine res1 rfl (ResOK.tmp rfl) ⟨rfl,rfl⟩ ms
 ·replace hp:=cond_f q4 hp
  refine s10 ?_
  refine W_while (σ:=Int) GT.dat (fun (v5_0:Int)=>[(32,.int .i64 v5_0)]) (fun (v5_0:Int)=>[]) [(1,_),(30,_),(31,_)] [blk bk1 _ _] 0 hp sb ms ?_
  clear hp
  rintro v5_0 x5 hp hx5
  replace hp:=dd hp
  refine kq [1,30,31,32] ?_
  refine s5 ?_
  refine kp [1,30,31,32,33] ?_
  refine W_cond rfl (fun q6=>?_) (fun q6=>?_)
  ·replace hp:=cond_t q6 hp
   refine s5 ?_
   replace hp:=idx_bind hp;obtain ⟨⟨⟨u7_1,u7_2⟩,u7_3,u7_4,u7_5,⟨u7_6,u7_7,u7_8,u7_9,u7_10,u7_11,u7_12,u7_13⟩,u7_14,u7_15,u7_16⟩,hy7,hp⟩:=hp
   refine L_idxA (X:=a0_3) rfl rfl rfl el41.h (RdT.old h0.2.2.1) hy7 ?_
   refine L_loadW rfl rfl (RdT.at (RdT.old h0.2.2.1) (hy7).2) (by exact agg48.h) ?_
   refine al fun bk4=>?_
   refine s5 ?_
   refine L_loadW rfl rfl (RdC.seg (RdC.blk mm) 0 2 rfl) (by exact agg35.h) ?_
   replace hp:=ba hp;obtain ⟨y8,hy8,hp⟩:=hp
   refine L_callX rfl fn110.h rfl (by exact fun w hw=>i_ENode_unknown_walk w bk1 (a0_1,a0_2,a0_3,a0_4) (u7_1,u7_2) (cells_of_blk mm hw.sees) (RdT.now (RdT.pair RdT.int (RdT.pair RdT.int (RdT.pair (RdT.old h0.2.2.1) (RdT.old h0.2.2.2)))) hw) (RdT.now (RdT.pair RdT.int RdT.int) hw) _ hy8) ?_
   refine s1 ?_
   refine kp [1,30,31,32,38] ?_
   refine W_cond rfl (fun q9=>?_) (fun q9=>?_)
   ·replace hp:=cond_t q9 hp
    refine s4 ?_
    replace hp:=map_any hp;obtain ⟨a10,hp,z_10⟩:=hp
    obtain rfl:=hx5 _ z_10
    obtain rfl:=sj hp
    refine s1 ?_
    refine res1 rfl (ResOK.tmp rfl) ⟨rfl,rfl⟩ ms
   ·replace hp:=cond_f q9 hp
    refine s5 ?_
    exact ⟨IntKind.wrap .i64 (v5_0+1),sb,(.sub ms),some_eq hp⟩
  ·replace hp:=cond_f q6 hp
   refine W_exit ?_
   replace hp:=map_any hp;obtain ⟨a11,hp,z_11⟩:=hp
   obtain rfl:=hx5 _ z_11
   refine s9 ?_
   refine W_while (σ:=Int) GT.dat (fun (v12_0:Int)=>[(43,.int .i64 v12_0)]) (fun (v12_0:Int)=>[]) [(1,_),(41,_),(42,_)] [blk bk1 _ _] 0 hp sb ms ?_
   clear hp
   rintro v12_0 x12 hp hx12
   replace hp:=dd hp
   refine kq [1,41,42,43] ?_
   refine s5 ?_
   refine kp [1,41,42,43,44] ?_
   refine W_cond rfl (fun q13=>?_) (fun q13=>?_)
   ·replace hp:=cond_t q13 hp
    refine s6 ?_
    replace hp:=idx_bind hp;obtain ⟨⟨⟨u14_1,u14_2⟩,u14_3,u14_4,u14_5,u14_6,u14_7,u14_8⟩,hy14,hp⟩:=hp
    refine L_idxA (X:=a0_4) rfl rfl rfl el42.h (RdT.old h0.2.2.2) hy14 ?_
    refine L_loadW rfl rfl (RdT.at (RdT.old h0.2.2.2) (hy14).2) (by exact agg141.h) ?_
    refine al fun bk6=>?_
    refine s4 ?_
    replace hp:=ba hp;obtain ⟨y15,hy15,hp⟩:=hp
    replace hp:=gb_any hp;obtain ⟨y16,hy16,hp⟩:=hp
    refine W_D0 [57] mix (by kernel_rfl) rfl ?_
    refine s1 ?_
    refine D_callX GC.none fn111.h (OpVs.cons (OpV.t rfl) (OpVs.nil)) (by exact fun hg w F hF hM=>i_leadOk_walk w ((u14_1,u14_2),u14_3,u14_4,u14_5,u14_6,u14_7,u14_8) (RdT.nowS (RdT.pair (RdT.pair RdT.int RdT.int) (RdT.pair RdT.int (RdT.pair RdT.int (RdT.pair RdT.int (RdT.pair (RdT.fst (RdT.snd (RdT.snd (RdT.snd (RdT.snd (RdT.of (RdT.old h0.2.2.2) (hy14).2)))))) (RdT.pair (RdT.fst (RdT.snd (RdT.snd (RdT.snd (RdT.snd (RdT.snd (RdT.of (RdT.old h0.2.2.2) (hy14).2))))))) RdT.bool)))))) hF hM) _ hy15) ?_
    refine s3 ?_
    refine D_loadW (GC.some rfl rfl) (OpV.s rfl) (fun hg=>RdC.seg (RdC.blk mm) 0 2 rfl) (by exact agg35.h) ?_
    refine D_callX (GC.some rfl rfl) fn112.h (OpVs.cons (OpV.t rfl) (OpVs.cons (OpV.s rfl) (OpVs.nil))) (by exact fun hg w F hF hM=>i_ENode_lead_walk w bk1 (a0_1,a0_2,a0_3,a0_4) (u14_1,u14_2) (cells_of_blk (hM _ mm) hF.sees) (RdT.nowS (RdT.pair RdT.int (RdT.pair RdT.int (RdT.pair (RdT.old h0.2.2.1) (RdT.old h0.2.2.2)))) hF hM) (RdT.nowS (RdT.pair RdT.int RdT.int) hF hM) _ (hy16 (gnot hg.2))) ?_
    refine s15 ?_
    refine kp [1,41,42,43,57] ?_
    refine W_cond rfl (fun q17=>?_) (fun q17=>?_)
    ·replace hp:=cond_t q17 hp
     refine s4 ?_
     replace hp:=map_any hp;obtain ⟨a18,hp,z_18⟩:=hp
     obtain rfl:=hx12 _ z_18
     obtain rfl:=sj hp
     refine s1 ?_
     refine res1 rfl (ResOK.tmp rfl) ⟨rfl,rfl⟩ ms
    ·replace hp:=cond_f q17 hp
     refine s5 ?_
     exact ⟨IntKind.wrap .i64 (v12_0+1),sb,(.sub ms),some_eq hp⟩
   ·replace hp:=cond_f q13 hp
    refine W_exit ?_
    replace hp:=map_any hp;obtain ⟨a19,hp,z_19⟩:=hp
    obtain rfl:=hx12 _ z_19
    refine s4 ?_
    obtain rfl:=sj hp
    refine s1 ?_
    refine res1 rfl (ResOK.tmp rfl) ⟨rfl,rfl⟩ ms
end Go.Proofs.SL
namespace Go.Proofs.SL
open Go
variable {Γ:Cx} {l:Envl} {M M' M1 M2 F:List HP} {Q:Post} {K:Kont} {w0 w:World} {S0:List Nat} {P:Program}
variable {rest:List Oper} {d:Nat} {ty:TypeId} {pos:String} {af:Array Edge}
section
variable {ops:Array Oper} {Msh pool pool':List HP} {E:Fl} {rs:List (Option Nat×Rel)} {cs0:List Nat} {KD:RKont}
end
end Go.Proofs.SL
