/- The texts of the proof, part 10: the base, walks of functions, plain Lean. -/
import Derived.Test.YtkfgjljahhgooaaGreatT8
import Derived.Test.YtkfgjljahhgooaaGreatT9
import Derived.Test.YtkfgjljahhgooaaGreatT5
import Derived.Test.YtkfgjljahhgooaaGreatT6
namespace Go.Proofs.SL
open Go
set_option maxHeartbeats 2000000
abbrev D_EMsg:=Int×Int×Int×D_Id×Int×D_Cmd×Int×(List D_Id)×Int×Int×Bool
instance fld35_0:FldF Tryz.prog 35 0 0:=⟨by kernel_rfl⟩
instance fld35_1:FldF Tryz.prog 35 1 1:=⟨by kernel_rfl⟩
instance fld35_2:FldF Tryz.prog 35 2 2:=⟨by kernel_rfl⟩
instance fld35_3:FldF Tryz.prog 35 3 3:=⟨by kernel_rfl⟩
instance fld35_4:FldF Tryz.prog 35 4 5:=⟨by kernel_rfl⟩
instance fld35_5:FldF Tryz.prog 35 5 6:=⟨by kernel_rfl⟩
instance fld35_6:FldF Tryz.prog 35 6 14:=⟨by kernel_rfl⟩
instance fld35_7:FldF Tryz.prog 35 7 15:=⟨by kernel_rfl⟩
instance fld35_8:FldF Tryz.prog 35 8 16:=⟨by kernel_rfl⟩
instance fld35_9:FldF Tryz.prog 35 9 17:=⟨by kernel_rfl⟩
instance zero27:ZerF Tryz.prog 27 [.int .i64 0,.int .i64 0,.slice none 0 0,.slice none 0 0]:=⟨by kernel_rfl⟩
instance fn117:FnF Tryz.prog 117:=⟨_,Tryz.func117,by kernel_rfl,rfl⟩
instance bld27:BldF Tryz.prog 27 [(0,1),(1,1),(2,1),(3,1)] [.int .i64 0,.int .i64 0,.slice none 0 0,.slice none 0 0]:=⟨by kernel_rfl⟩
instance el38:ElF Tryz.prog 38 35 19 208 [.int .i64 0,.int .i64 0,.int .i64 0,.int .i64 0,.int .i64 0,.int .i64 0,.int .i64 0,.int .i64 0,.int .i64 0,.string ByteArray.empty,.string ByteArray.empty,.string ByteArray.empty,.int .i64 0,.slice none 0 0,.int .i64 0,.slice none 0 0,.int .i64 0,.int .i64 0,.bool false]:=⟨by kernel_rfl⟩
instance agg35:AggF Tryz.prog 35 19:=⟨by kernel_rfl⟩
instance zero35:ZerF Tryz.prog 35 [.int .i64 0,.int .i64 0,.int .i64 0,.int .i64 0,.int .i64 0,.int .i64 0,.int .i64 0,.int .i64 0,.int .i64 0,.string ByteArray.empty,.string ByteArray.empty,.string ByteArray.empty,.int .i64 0,.slice none 0 0,.int .i64 0,.slice none 0 0,.int .i64 0,.int .i64 0,.bool false]:=⟨by kernel_rfl⟩
instance bld35:BldF Tryz.prog 35 [(0,1),(1,1),(2,1),(3,2),(5,1),(6,8),(14,1),(15,1),(16,1),(17,1),(18,1)] [.int .i64 0,.int .i64 0,.int .i64 0,.int .i64 0,.int .i64 0,.int .i64 0,.int .i64 0,.int .i64 0,.int .i64 0,.string ByteArray.empty,.string ByteArray.empty,.string ByteArray.empty,.int .i64 0,.slice none 0 0,.int .i64 0,.slice none 0 0,.int .i64 0,.int .i64 0,.bool false]:=⟨by kernel_rfl⟩
instance fn68:FnF Tryz.prog 68:=⟨_,Tryz.func68,by kernel_rfl,rfl⟩
instance fn14:FnF Tryz.prog 14:=⟨_,Tryz.func14,by kernel_rfl,rfl⟩
instance fn66:FnF Tryz.prog 66:=⟨_,Tryz.func66,by kernel_rfl,rfl⟩
instance fn67:FnF Tryz.prog 67:=⟨_,Tryz.func67,by kernel_rfl,rfl⟩
instance fn13:FnF Tryz.prog 13:=⟨_,Tryz.func13,by kernel_rfl,rfl⟩
instance fn46:FnF Tryz.prog 46:=⟨_,Tryz.func46,by kernel_rfl,rfl⟩
instance bld89:BldF Tryz.prog 89 [(0,2),(2,1),(3,1),(4,1),(5,1),(6,1),(7,1)] [.int .i64 0,.int .i64 0,.int .i64 0,.int .i64 0,.int .i64 0,.slice none 0 0,.slice none 0 0,.bool false]:=⟨by kernel_rfl⟩
noncomputable def s_l8CopyAll (a0:List D_Inst):Option (List D_Inst) :=
 Option.bind (some ([]:List D_Inst)) (fun y2=>whileP (fun s3:(List D_Inst)×Int=>cond (decide (s3.2 < (a0.length:Int))) (Option.bind (idx a0 s3.2) (fun y5=>Option.bind (s_l8Copy ((y5.1.1,y5.1.2),y5.2.1,y5.2.2.1,y5.2.2.2.1,(y5.2.2.2.2.1.1,y5.2.2.2.2.1.2.1,y5.2.2.2.2.1.2.2.1,y5.2.2.2.2.1.2.2.2.1,y5.2.2.2.2.1.2.2.2.2.1,y5.2.2.2.2.1.2.2.2.2.2.1,y5.2.2.2.2.1.2.2.2.2.2.2.1,y5.2.2.2.2.1.2.2.2.2.2.2.2),y5.2.2.2.2.2.1,y5.2.2.2.2.2.2.1,y5.2.2.2.2.2.2.2)) (fun y6=>Option.bind (appP s3.1 [((y6.1.1,y6.1.2),y6.2.1,y6.2.2.1,y6.2.2.2.1,(y6.2.2.2.2.1.1,y6.2.2.2.2.1.2.1,y6.2.2.2.2.1.2.2.1,y6.2.2.2.2.1.2.2.2.1,y6.2.2.2.2.1.2.2.2.2.1,y6.2.2.2.2.1.2.2.2.2.2.1,y6.2.2.2.2.1.2.2.2.2.2.2.1,y6.2.2.2.2.1.2.2.2.2.2.2.2),y6.2.2.2.2.2.1,y6.2.2.2.2.2.2.1,y6.2.2.2.2.2.2.2)]) (fun y8=>some (.inl ((y8,IntKind.wrap .i64 (s3.2+1)))))))) (Option.map .inr (some s3.1))) (y2,0))
theorem s_l8CopyAll_walk (w:World) (a0:TL T_Inst) (h0:GT.rd w [] a0) (r:(List D_Inst)) (hp:s_l8CopyAll (GT.dat a0)=some r):Spec Tryz.prog 117 [(TL.hdr a0)].toArray w [] (fun v M=>∃ (x0:TL T_Inst),v=(TL.hdr x0)∧GT.dat x0=r∧M=[treeH x0]):=by
 refine Spec.intro Tryz.func117 rfl Tryz.ntmps117 rfl ?_
 unfold s_l8CopyAll at hp
 replace hp:=dd hp
 refine s2 ?_
 refine L_assign (v:=(TL.hdr (TL.nil T_Inst 0))) rfl rfl ?_
 refine s3 ?_
 replace hp:=ba hp;obtain ⟨y2,hy2,hp⟩:=hp
 refine L_mk0R T_Inst rfl el24.h (fun X1 hdX1 hzX1=>?_)
 obtain rfl:GT.dat X1=y2:=hdX1.trans (Option.some.inj hy2)
 clear hy2 hdX1
 refine s8 ?_
 refine W_while (σ:=(TL T_Inst)×Int) GT.dat (fun ((v3_0,v3_1):(TL T_Inst)×Int)=>[(3,(TL.hdr v3_0)),(4,.int .i64 v3_1)]) (fun ((v3_0,v3_1):(TL T_Inst)×Int)=>[treeH v3_0]) [(0,_)] [] (X1,0) hp sb ms ?_
 clear hp
 rintro ⟨v3_0,v3_1⟩ x3 hp hx3
 replace hp:=dd hp
 refine kq [0,3,4] ?_
 refine s8 ?_
 refine kp [0,3,4,9] ?_
 refine W_cond rfl (fun q4=>?_) (fun q4=>?_)
 ·replace hp:=cond_t q4 hp
  refine s7 ?_
  replace hp:=idx_bind hp;obtain ⟨⟨⟨u5_1,u5_2⟩,u5_3,u5_4,u5_5,⟨u5_6,u5_7,u5_8,u5_9,u5_10,u5_11,u5_12,u5_13⟩,u5_14,u5_15,u5_16⟩,hy5,hp⟩:=hp
  refine L_idxA (X:=a0) rfl rfl rfl el24.h (RdT.old h0) hy5 ?_
  refine L_loadW rfl rfl (RdT.at (RdT.old h0) (hy5).2) (by exact agg45.h) ?_
  replace hp:=ba hp;obtain ⟨y6,hy6,hp⟩:=hp
  refine L_callR rfl fn55.h rfl (by exact fun w hw=>s_l8Copy_walk w ((u5_1,u5_2),u5_3,u5_4,u5_5,(u5_6,u5_7,u5_8,u5_9,u5_10,u5_11,u5_12,u5_13),u5_14,u5_15,u5_16) (RdT.now (RdT.pair (RdT.pair RdT.int RdT.int) (RdT.pair RdT.int (RdT.pair RdT.int (RdT.pair RdT.int (RdT.pair (RdT.pair RdT.int (RdT.pair RdT.int (RdT.pair RdT.int (RdT.pair RdT.str (RdT.pair RdT.str (RdT.pair RdT.str (RdT.pair RdT.int (RdT.snd (RdT.snd (RdT.snd (RdT.snd (RdT.snd (RdT.snd (RdT.snd (RdT.fst (RdT.snd (RdT.snd (RdT.snd (RdT.snd (RdT.of (RdT.old h0) (hy5).2)))))))))))))))))))) (RdT.pair RdT.int (RdT.pair (RdT.fst (RdT.snd (RdT.snd (RdT.snd (RdT.snd (RdT.snd (RdT.snd (RdT.of (RdT.old h0) (hy5).2)))))))) RdT.bool))))))) hw) _ hy6) ?_
  rintro _ _ ⟨⟨⟨y6x0_1,y6x0_2⟩,y6x0_3,y6x0_4,y6x0_5,⟨y6x0_6,y6x0_7,y6x0_8,y6x0_9,y6x0_10,y6x0_11,y6x0_12,y6x0_13⟩,y6x0_14,y6x0_15,y6x0_16⟩,rfl,rfl,rfl⟩
  refine sc ?_
  replace hp:=dd hp
  refine xL (((y6x0_1,y6x0_2),y6x0_3,y6x0_4,y6x0_5,(y6x0_6,y6x0_7,y6x0_8,y6x0_9,y6x0_10,y6x0_11,y6x0_12,y6x0_13),y6x0_14,y6x0_15,y6x0_16):T_Inst) ?_
  refine L_buildSlice1 rfl rfl el24.h rfl (by decide) (by decide) rfl (fun bb18=>?_)
  replace hp:=ba hp;obtain ⟨y8,hy8,hp⟩:=hp
  refine jL (((y6x0_1,y6x0_2),y6x0_3,y6x0_4,y6x0_5,(y6x0_6,y6x0_7,y6x0_8,y6x0_9,y6x0_10,y6x0_11,y6x0_12,y6x0_13),y6x0_14,y6x0_15,y6x0_16):T_Inst) ?_
  refine L_app1m (X:=v3_0) (((y6x0_1,y6x0_2),y6x0_3,y6x0_4,y6x0_5,(y6x0_6,y6x0_7,y6x0_8,y6x0_9,y6x0_10,y6x0_11,y6x0_12,y6x0_13),y6x0_14,y6x0_15,y6x0_16):T_Inst) rfl rfl rfl el24.h rfl rfl pk mm pk hy8 (by decide) (fun X7 hdX7 hmX7=>?_)
  subst hdX7
  refine s7 ?_
  exact ⟨(X7,IntKind.wrap .i64 (v3_1+1)),sb,(.sub ms),some_eq hp⟩
 ·replace hp:=cond_f q4 hp
  refine W_exit ?_
  replace hp:=map_any hp;obtain ⟨a9,hp,z_9⟩:=hp
  obtain rfl:=hx3 _ z_9
  refine s5 ?_
  obtain rfl:=sj hp
  refine s1 ?_
  refine res1 rfl (ResOK.tmp rfl) ⟨v3_0,rfl,rfl,rfl⟩ ms
noncomputable def s_l8Put (a0:List D_Inst) (a1:D_Inst):Option (List D_Inst) :=
 Option.bind (some ([]:List D_Inst)) (fun y2=>whileP (fun s3:(List D_Inst)×Bool×Int=>cond (decide (s3.2.2 < (a0.length:Int))) (gb (!s3.2.1) (idx a0 s3.2.2) (fun y5=>gb (!s3.2.1) (s_l8Less (y5.1.1,y5.1.2) (a1.1.1,a1.1.2)) (fun y6=>cond ((!s3.2.1)&&(!y6)) (Option.bind (appP s3.1 [((a1.1.1,a1.1.2),a1.2.1,a1.2.2.1,a1.2.2.2.1,(a1.2.2.2.2.1.1,a1.2.2.2.2.1.2.1,a1.2.2.2.2.1.2.2.1,a1.2.2.2.2.1.2.2.2.1,a1.2.2.2.2.1.2.2.2.2.1,a1.2.2.2.2.1.2.2.2.2.2.1,a1.2.2.2.2.1.2.2.2.2.2.2.1,a1.2.2.2.2.1.2.2.2.2.2.2.2),a1.2.2.2.2.2.1,a1.2.2.2.2.2.2.1,a1.2.2.2.2.2.2.2)]) (fun y9=>Option.bind (idx a0 s3.2.2) (fun y10=>cond (!(decide (y10.1.1=a1.1.1)&&(decide (y10.1.2=a1.1.2)&&true))) (Option.bind (idx a0 s3.2.2) (fun y12=>Option.bind (appP y9 [((y12.1.1,y12.1.2),y12.2.1,y12.2.2.1,y12.2.2.2.1,(y12.2.2.2.2.1.1,y12.2.2.2.2.1.2.1,y12.2.2.2.2.1.2.2.1,y12.2.2.2.2.1.2.2.2.1,y12.2.2.2.2.1.2.2.2.2.1,y12.2.2.2.2.1.2.2.2.2.2.1,y12.2.2.2.2.1.2.2.2.2.2.2.1,y12.2.2.2.2.1.2.2.2.2.2.2.2),y12.2.2.2.2.2.1,y12.2.2.2.2.2.2.1,y12.2.2.2.2.2.2.2)]) (fun y14=>some (.inl ((y14,true,IntKind.wrap .i64 (s3.2.2+1))))))) (some (.inl ((y9,true,IntKind.wrap .i64 (s3.2.2+1)))))))) (Option.bind (idx a0 s3.2.2) (fun y15=>cond (!(decide (y15.1.1=a1.1.1)&&(decide (y15.1.2=a1.1.2)&&true))) (Option.bind (idx a0 s3.2.2) (fun y17=>Option.bind (appP s3.1 [((y17.1.1,y17.1.2),y17.2.1,y17.2.2.1,y17.2.2.2.1,(y17.2.2.2.2.1.1,y17.2.2.2.2.1.2.1,y17.2.2.2.2.1.2.2.1,y17.2.2.2.2.1.2.2.2.1,y17.2.2.2.2.1.2.2.2.2.1,y17.2.2.2.2.1.2.2.2.2.2.1,y17.2.2.2.2.1.2.2.2.2.2.2.1,y17.2.2.2.2.1.2.2.2.2.2.2.2),y17.2.2.2.2.2.1,y17.2.2.2.2.2.2.1,y17.2.2.2.2.2.2.2)]) (fun y19=>some (.inl ((y19,s3.2.1,IntKind.wrap .i64 (s3.2.2+1))))))) (some (.inl ((s3.1,s3.2.1,IntKind.wrap .i64 (s3.2.2+1)))))))))) (Option.map .inr (cond (!s3.2.1) (Option.bind (appP s3.1 [((a1.1.1,a1.1.2),a1.2.1,a1.2.2.1,a1.2.2.2.1,(a1.2.2.2.2.1.1,a1.2.2.2.2.1.2.1,a1.2.2.2.2.1.2.2.1,a1.2.2.2.2.1.2.2.2.1,a1.2.2.2.2.1.2.2.2.2.1,a1.2.2.2.2.1.2.2.2.2.2.1,a1.2.2.2.2.1.2.2.2.2.2.2.1,a1.2.2.2.2.1.2.2.2.2.2.2.2),a1.2.2.2.2.2.1,a1.2.2.2.2.2.2.1,a1.2.2.2.2.2.2.2)]) (fun y23=>some y23)) (some s3.1)))) (y2,false,0))
theorem s_l8Put_walk (w:World) (a0:TL T_Inst) (a1:T_Inst) (h0:GT.rd w [] a0) (h1:GT.rd w [] a1) (r:(List D_Inst)) (hp:s_l8Put (GT.dat a0) (GT.dat a1)=some r):Spec Tryz.prog 66 [(TL.hdr a0),.agg (GT.cells a1).toArray].toArray w [] (fun v M=>∃ (x0:TL T_Inst) (B:BL),v=(TL.hdr x0)∧GT.dat x0=r∧M=[frz B.l (a0,a1) x0]):=by
 obtain ⟨⟨a1_1,a1_2⟩,a1_3,a1_4,a1_5,⟨a1_6,a1_7,a1_8,a1_9,a1_10,a1_11,a1_12,a1_13⟩,a1_14,a1_15,a1_16⟩:=a1
 change Spec _ _ ([(TL.hdr a0),Value.agg #[.int .i64 a1_1,.int .i64 a1_2,.int .i64 a1_3,.int .i64 a1_4,.int .i64 a1_5,.int .i64 a1_6,.int .i64 a1_7,.int .i64 a1_8,.string a1_9,.string a1_10,.string a1_11,.int .i64 a1_12,(TL.hdr a1_13),.int .i64 a1_14,(TL.hdr a1_15),.bool a1_16]]:List Value).toArray w [] _
 refine Spec.intro Tryz.func66 rfl Tryz.ntmps66 rfl ?_
 unfold s_l8Put at hp
 replace hp:=dd hp
 refine s2 ?_
 refine bx fun bk3=>?_
 refine L_assign (v:=(TL.hdr (TL.nil T_Inst 0))) rfl rfl ?_
 refine s3 ?_
 replace hp:=ba hp;obtain ⟨y2,hy2,hp⟩:=hp
 refine L_mk0R T_Inst rfl el24.h (fun X1 hdX1 hzX1=>?_)
 obtain rfl:GT.dat X1=y2:=hdX1.trans (Option.some.inj hy2)
 clear hy2 hdX1
 refine s12 ?_
 refine W_conv (M':=rowH X1::elsT X1.els::_) (fun w h=>row_open pk h) ?_
 refine W_conv (M':=subH X1.els (a0.els++[((a1_1,a1_2),a1_3,a1_4,a1_5,(a1_6,a1_7,a1_8,a1_9,a1_10,a1_11,a1_12,a1_13),a1_14,a1_15,a1_16)])::_) (fun w h=>sub_add (fun x hx=>by rw [hzX1] at hx;cases hx) h) ?_
 refine W_while (σ:=(TL T_Inst)×Bool×Int) GT.dat (fun ((v3_0,v3_1,v3_2):(TL T_Inst)×Bool×Int)=>[(5,(TL.hdr v3_0)),(6,.bool v3_1),(7,.int .i64 v3_2)]) (fun ((v3_0,v3_1,v3_2):(TL T_Inst)×Bool×Int)=>[rowH v3_0,subH v3_0.els (a0.els++[((a1_1,a1_2),a1_3,a1_4,a1_5,(a1_6,a1_7,a1_8,a1_9,a1_10,a1_11,a1_12,a1_13),a1_14,a1_15,a1_16)])]) [(0,_),(3,_)] [blk bk3 _ _] (X1,false,0) hp sb ms ?_
 clear hp
 rintro ⟨v3_0,v3_1,v3_2⟩ x3 hp hx3
 replace hp:=dd hp
 refine kq [0,3,5,6,7] ?_
 refine s8 ?_
 refine kp [0,3,5,6,7,12] ?_
 refine W_cond rfl (fun q4=>?_) (fun q4=>?_)
 ·replace hp:=cond_t q4 hp
  refine s5 ?_
  replace hp:=idx_gb hp;obtain ⟨⟨⟨u5_1,u5_2⟩,u5_3,u5_4,u5_5,⟨u5_6,u5_7,u5_8,u5_9,u5_10,u5_11,u5_12,u5_13⟩,u5_14,u5_15,u5_16⟩,hy5,hp⟩:=hp
  replace hp:=gb_any hp;obtain ⟨y6,hy6,hp⟩:=hp
  refine W_D0 [27] mix (by kernel_rfl) rfl ?_
  refine s5 ?_
  refine D_idxA (X:=a0) (GC.some rfl rfl) (OpV.s rfl) (OpV.s rfl) el24.h (RdT.old h0) (fun hg=>hy5 hg.2) ?_
  refine s1 ?_
  refine D_loadW (GC.some rfl rfl) (OpV.s rfl) (fun hg=>RdC.seg (RdT.at (RdT.old h0) (hy5 hg.2).2) 0 2 rfl) (by exact agg29.h) ?_
  refine s1 ?_
  refine D_loadW (GC.some rfl rfl) (OpV.s rfl) (fun hg=>RdC.seg (RdC.blk mm) 0 2 rfl) (by exact agg29.h) ?_
  refine D_callX (GC.some rfl rfl) fn129.h (OpVs.cons (OpV.s rfl) (OpVs.cons (OpV.s rfl) (OpVs.nil))) (by exact fun hg w F hF hM=>s_l8Less_walk w (u5_1,u5_2) (a1_1,a1_2) (RdT.nowS (RdT.pair RdT.int RdT.int) hF hM) (RdT.nowS (RdT.pair RdT.int RdT.int) hF hM) _ (hy6 hg.2)) ?_
  refine s17 ?_
  refine kp [0,3,5,6,7,27] ?_
  refine W_cond rfl (fun q7=>?_) (fun q7=>?_)
  ·replace hp:=cond_t q7 hp
   refine s4 ?_
   refine L_buildSlice1 rfl rfl el24.h rfl (by decide) (by decide) rfl (fun bb30=>?_)
   replace hp:=ba hp;obtain ⟨y9,hy9,hp⟩:=hp
   refine L_app1S (X:=v3_0) (An:=(a0.els++[((a1_1,a1_2),a1_3,a1_4,a1_5,(a1_6,a1_7,a1_8,a1_9,a1_10,a1_11,a1_12,a1_13),a1_14,a1_15,a1_16)])) (((a1_1,a1_2),a1_3,a1_4,a1_5,(a1_6,a1_7,a1_8,a1_9,a1_10,a1_11,a1_12,a1_13),a1_14,a1_15,a1_16):T_Inst) rfl rfl rfl el24.h rfl rfl pk pk mm hy9 (by decide) (List.mem_append_right _ (List.mem_singleton.2 rfl)) (fun X8 hdX8=>?_)
   subst hdX8
   refine s6 ?_
   replace hp:=idx_bind hp;obtain ⟨⟨⟨u10_1,u10_2⟩,u10_3,u10_4,u10_5,⟨u10_6,u10_7,u10_8,u10_9,u10_10,u10_11,u10_12,u10_13⟩,u10_14,u10_15,u10_16⟩,hy10,hp⟩:=hp
   refine W_D0 [39] mix (by kernel_rfl) rfl ?_
   refine s2 ?_
   refine D_idxA (X:=a0) GC.none (OpV.t rfl) (OpV.t rfl) el24.h (RdT.old h0) (fun _=>hy10) ?_
   refine s1 ?_
   refine D_loadW GC.none (OpV.t rfl) (fun hg=>RdC.seg (RdT.at (RdT.old h0) (hy10).2) 0 2 rfl) (by exact agg29.h) ?_
   refine s1 ?_
   refine D_loadW GC.none (OpV.t rfl) (fun hg=>RdC.seg (RdC.blk mm) 0 2 rfl) (by exact agg29.h) ?_
   refine D_bin GC.none (OpV.t rfl) (OpV.t rfl) (fun hg=>(bv_aneq eqsh29 (EqS.consI one3.h und3.h rfl rfl (EqS.consI one3.h und3.h rfl rfl EqS.nil)))) ?_
   refine s10 ?_
   refine kp [0,3,5,6,7,39] ?_
   refine W_cond rfl (fun q11=>?_) (fun q11=>?_)
   ·replace hp:=cond_t q11 hp
    refine s4 ?_
    replace hp:=idx_bind hp;obtain ⟨u12,hy12,hp⟩:=hp
    obtain rfl:((u10_1,u10_2),u10_3,u10_4,u10_5,(u10_6,u10_7,u10_8,u10_9,u10_10,u10_11,u10_12,u10_13),u10_14,u10_15,u10_16)=u12:=Option.some.inj (hy10.2.symm.trans hy12.2)
    refine L_idxA (X:=a0) rfl rfl rfl el24.h (RdT.old h0) hy10 ?_
    refine L_loadW rfl rfl (RdT.at (RdT.old h0) (hy10).2) (by exact agg45.h) ?_
    refine L_buildSlice1 rfl rfl el24.h rfl (by decide) (by decide) rfl (fun bb45=>?_)
    replace hp:=ba hp;obtain ⟨y14,hy14,hp⟩:=hp
    refine L_app1S (X:=X8) (An:=(a0.els++[((a1_1,a1_2),a1_3,a1_4,a1_5,(a1_6,a1_7,a1_8,a1_9,a1_10,a1_11,a1_12,a1_13),a1_14,a1_15,a1_16)])) (((u10_1,u10_2),u10_3,u10_4,u10_5,(u10_6,u10_7,u10_8,u10_9,u10_10,u10_11,u10_12,u10_13),u10_14,u10_15,u10_16):T_Inst) rfl rfl rfl el24.h rfl rfl pk pk mm hy14 (by decide) (List.mem_append_left _ (List.mem_of_getElem? hy10.2)) (fun X13 hdX13=>?_)
    subst hdX13
    refine s7 ?_
    exact ⟨(X13,true,IntKind.wrap .i64 (v3_2+1)),sb,(.sub ms),some_eq hp⟩
   ·replace hp:=cond_f q11 hp
    refine s6 ?_
    exact ⟨(X8,true,IntKind.wrap .i64 (v3_2+1)),sb,(.sub ms),some_eq hp⟩
  ·replace hp:=cond_f q7 hp
   refine s2 ?_
   replace hp:=idx_bind hp;obtain ⟨⟨⟨u15_1,u15_2⟩,u15_3,u15_4,u15_5,⟨u15_6,u15_7,u15_8,u15_9,u15_10,u15_11,u15_12,u15_13⟩,u15_14,u15_15,u15_16⟩,hy15,hp⟩:=hp
   refine W_D0 [39] mix (by kernel_rfl) rfl ?_
   refine s2 ?_
   refine D_idxA (X:=a0) GC.none (OpV.t rfl) (OpV.t rfl) el24.h (RdT.old h0) (fun _=>hy15) ?_
   refine s1 ?_
   refine D_loadW GC.none (OpV.t rfl) (fun hg=>RdC.seg (RdT.at (RdT.old h0) (hy15).2) 0 2 rfl) (by exact agg29.h) ?_
   refine s1 ?_
   refine D_loadW GC.none (OpV.t rfl) (fun hg=>RdC.seg (RdC.blk mm) 0 2 rfl) (by exact agg29.h) ?_
   refine D_bin GC.none (OpV.t rfl) (OpV.t rfl) (fun hg=>(bv_aneq eqsh29 (EqS.consI one3.h und3.h rfl rfl (EqS.consI one3.h und3.h rfl rfl EqS.nil)))) ?_
   refine s10 ?_
   refine kp [0,3,5,6,7,39] ?_
   refine W_cond rfl (fun q16=>?_) (fun q16=>?_)
   ·replace hp:=cond_t q16 hp
    refine s4 ?_
    replace hp:=idx_bind hp;obtain ⟨u17,hy17,hp⟩:=hp
    obtain rfl:((u15_1,u15_2),u15_3,u15_4,u15_5,(u15_6,u15_7,u15_8,u15_9,u15_10,u15_11,u15_12,u15_13),u15_14,u15_15,u15_16)=u17:=Option.some.inj (hy15.2.symm.trans hy17.2)
    refine L_idxA (X:=a0) rfl rfl rfl el24.h (RdT.old h0) hy15 ?_
    refine L_loadW rfl rfl (RdT.at (RdT.old h0) (hy15).2) (by exact agg45.h) ?_
    refine L_buildSlice1 rfl rfl el24.h rfl (by decide) (by decide) rfl (fun bb45=>?_)
    replace hp:=ba hp;obtain ⟨y19,hy19,hp⟩:=hp
    refine L_app1S (X:=v3_0) (An:=(a0.els++[((a1_1,a1_2),a1_3,a1_4,a1_5,(a1_6,a1_7,a1_8,a1_9,a1_10,a1_11,a1_12,a1_13),a1_14,a1_15,a1_16)])) (((u15_1,u15_2),u15_3,u15_4,u15_5,(u15_6,u15_7,u15_8,u15_9,u15_10,u15_11,u15_12,u15_13),u15_14,u15_15,u15_16):T_Inst) rfl rfl rfl el24.h rfl rfl pk pk mm hy19 (by decide) (List.mem_append_left _ (List.mem_of_getElem? hy15.2)) (fun X18 hdX18=>?_)
    subst hdX18
    refine s7 ?_
    exact ⟨(X18,v3_1,IntKind.wrap .i64 (v3_2+1)),sb,(.sub ms),some_eq hp⟩
   ·replace hp:=cond_f q16 hp
    refine s6 ?_
    exact ⟨(v3_0,v3_1,IntKind.wrap .i64 (v3_2+1)),sb,(.sub ms),some_eq hp⟩
 ·replace hp:=cond_f q4 hp
  refine W_exit ?_
  replace hp:=map_any hp;obtain ⟨a20,hp,z_20⟩:=hp
  obtain rfl:=hx3 _ z_20
  refine s6 ?_
  refine kp [3,5,48] ?_
  refine W_cond rfl (fun q21=>?_) (fun q21=>?_)
  ·replace hp:=cond_t q21 hp
   refine s3 ?_
   refine L_buildSlice1 rfl rfl el24.h rfl (by decide) (by decide) rfl (fun bb51=>?_)
   replace hp:=ba hp;obtain ⟨y23,hy23,hp⟩:=hp
   refine L_app1S (X:=v3_0) (An:=(a0.els++[((a1_1,a1_2),a1_3,a1_4,a1_5,(a1_6,a1_7,a1_8,a1_9,a1_10,a1_11,a1_12,a1_13),a1_14,a1_15,a1_16)])) (((a1_1,a1_2),a1_3,a1_4,a1_5,(a1_6,a1_7,a1_8,a1_9,a1_10,a1_11,a1_12,a1_13),a1_14,a1_15,a1_16):T_Inst) rfl rfl rfl el24.h rfl rfl pk pk mm hy23 (by decide) (List.mem_append_right _ (List.mem_singleton.2 rfl)) (fun X22 hdX22=>?_)
   subst hdX22
   refine s7 ?_
   obtain rfl:=sj hp
   refine W_conv (M':=frz (fps [rowH X22,subH X22.els (a0.els++[((a1_1,a1_2),a1_3,a1_4,a1_5,(a1_6,a1_7,a1_8,a1_9,a1_10,a1_11,a1_12,a1_13),a1_14,a1_15,a1_16)])]) (a0,((a1_1,a1_2),a1_3,a1_4,a1_5,(a1_6,a1_7,a1_8,a1_9,a1_10,a1_11,a1_12,a1_13),a1_14,a1_15,a1_16)) X22::_) (fun w h=>pack [rowH X22,subH X22.els (a0.els++[((a1_1,a1_2),a1_3,a1_4,a1_5,(a1_6,a1_7,a1_8,a1_9,a1_10,a1_11,a1_12,a1_13),a1_14,a1_15,a1_16)])] pc (fun w' S ha=>by obtain ⟨h0,h1⟩:=ha;exact (RdP.rowE mm (RdP.subH mm (RdP.elApp (RdP.elTL (RdP.old h0)) (RdP.elOne (RdP.pair (RdP.pair RdP.int RdP.int) (RdP.pair RdP.int (RdP.pair RdP.int (RdP.pair RdP.int (RdP.pair (RdP.pair RdP.int (RdP.pair RdP.int (RdP.pair RdP.int (RdP.pair RdP.str (RdP.pair RdP.str (RdP.pair RdP.str (RdP.pair RdP.int (RdP.old h1.2.2.2.2.1.2.2.2.2.2.2.2)))))))) (RdP.pair RdP.int (RdP.pair (RdP.old h1.2.2.2.2.2.2.1) RdP.bool)))))))))))) h) ?_
   refine s1 ?_
   refine res1 rfl (ResOK.tmp rfl) ⟨X22,(⟨fps [rowH X22,subH X22.els (a0.els++[((a1_1,a1_2),a1_3,a1_4,a1_5,(a1_6,a1_7,a1_8,a1_9,a1_10,a1_11,a1_12,a1_13),a1_14,a1_15,a1_16)])]⟩:BL),rfl,rfl,rfl⟩ ms
  ·replace hp:=cond_f q21 hp
   refine s6 ?_
   obtain rfl:=sj hp
   refine W_conv (M':=frz (fps [rowH v3_0,subH v3_0.els (a0.els++[((a1_1,a1_2),a1_3,a1_4,a1_5,(a1_6,a1_7,a1_8,a1_9,a1_10,a1_11,a1_12,a1_13),a1_14,a1_15,a1_16)])]) (a0,((a1_1,a1_2),a1_3,a1_4,a1_5,(a1_6,a1_7,a1_8,a1_9,a1_10,a1_11,a1_12,a1_13),a1_14,a1_15,a1_16)) v3_0::_) (fun w h=>pack [rowH v3_0,subH v3_0.els (a0.els++[((a1_1,a1_2),a1_3,a1_4,a1_5,(a1_6,a1_7,a1_8,a1_9,a1_10,a1_11,a1_12,a1_13),a1_14,a1_15,a1_16)])] pc (fun w' S ha=>by obtain ⟨h0,h1⟩:=ha;exact (RdP.rowE mm (RdP.subH mm (RdP.elApp (RdP.elTL (RdP.old h0)) (RdP.elOne (RdP.pair (RdP.pair RdP.int RdP.int) (RdP.pair RdP.int (RdP.pair RdP.int (RdP.pair RdP.int (RdP.pair (RdP.pair RdP.int (RdP.pair RdP.int (RdP.pair RdP.int (RdP.pair RdP.str (RdP.pair RdP.str (RdP.pair RdP.str (RdP.pair RdP.int (RdP.old h1.2.2.2.2.1.2.2.2.2.2.2.2)))))))) (RdP.pair RdP.int (RdP.pair (RdP.old h1.2.2.2.2.2.2.1) RdP.bool)))))))))))) h) ?_
   refine s1 ?_
   refine res1 rfl (ResOK.tmp rfl) ⟨v3_0,(⟨fps [rowH v3_0,subH v3_0.els (a0.els++[((a1_1,a1_2),a1_3,a1_4,a1_5,(a1_6,a1_7,a1_8,a1_9,a1_10,a1_11,a1_12,a1_13),a1_14,a1_15,a1_16)])]⟩:BL),rfl,rfl,rfl⟩ ms
noncomputable def s_l9Copy (a0:D_ENode):Option D_ENode :=
 Option.bind (s_l8CopyAll a0.2.2.1) (fun y1=>whileP (fun s3:Int×(List D_Lead)=>cond (decide (s3.1 < (a0.2.2.2.length:Int))) (Option.bind (idx a0.2.2.2 s3.1) (fun y5=>Option.bind (some ([]:List D_Id)) (fun y7=>Option.bind (appP y7 y5.2.2.2.2.1) (fun y9=>Option.bind (some ([]:List Int)) (fun y11=>Option.bind (appP y11 y5.2.2.2.2.2.1) (fun y13=>Option.bind (appP s3.2 [((y5.1.1,y5.1.2),y5.2.1,y5.2.2.1,y5.2.2.2.1,y9,y13,y5.2.2.2.2.2.2)]) (fun y15=>some (.inl ((IntKind.wrap .i64 (s3.1+1),y15)))))))))) (Option.map .inr (some (a0.1,a0.2.1,y1,s3.2)))) (0,([]:List D_Lead)))
theorem s_l9Copy_walk (w:World) (a0:T_ENode) (h0:GT.rd w [] a0) (r:D_ENode) (hp:s_l9Copy (GT.dat a0)=some r):Spec Tryz.prog 46 [.agg (GT.cells a0).toArray].toArray w [] (fun v M=>∃ (x0:T_ENode),v=.agg (GT.cells x0).toArray∧GT.dat x0=r∧M=[treeH x0]):=by
 obtain ⟨a0_1,a0_2,a0_3,a0_4⟩:=a0
 change Spec _ _ ([Value.agg #[.int .i64 a0_1,.int .i64 a0_2,(TL.hdr a0_3),(TL.hdr a0_4)]]:List Value).toArray w [] _
 refine Spec.intro Tryz.func46 rfl Tryz.ntmps46 rfl ?_
 unfold s_l9Copy at hp
 replace hp:=dd hp
 refine s2 ?_
 refine bx fun bk1=>?_
 refine al fun bk2=>?_
 refine s2 ?_
 replace hp:=ba hp;obtain ⟨y1,hy1,hp⟩:=hp
 refine W_DS (pre:=[_,_,_,_,_,_,_,_,_]) (suf:=[_]) [3,13] [] _ pc mix (by kernel_rfl) (by kernel_rfl) rfl ?_
 refine s6 ?_
 refine D_call1R (fun v M=>∃ (x0:TL T_Inst),v=(TL.hdr x0)∧GT.dat x0=y1∧M=[treeH x0]) fn117.h (OpVs.cons (OpV.t rfl) (OpVs.nil)) (by exact fun w F hF hM=>s_l8CopyAll_walk w a0_3 (RdT.nowS (RdT.old h0.2.2.1) hF hM) _ hy1) ?_
 refine D_buildO (τ:=T_Inst) (t:=12) (xs:=[(0,.tmp 7),(1,.tmp 9),(2,.tmp 12)]) (ps:=fun u=>[(0,.int .i64 a0_1),(1,.int .i64 a0_2),(2,u)]) (cs:=fun u=>[.int .i64 a0_1,.int .i64 a0_2,u,(TL.hdr (TL.nil T_Lead 0))]) rfl (fun u=>(OpVp.cons (OpV.t rfl) (OpVp.cons (OpV.t rfl) (OpVp.cons (OpV.t rfl) (OpVp.nil))))) bld27.h (fun X=>rfl) (by kernel_rfl) ?_
 refine D_alloc zero27.h ?_
 refine s1 ?_
 refine Give_R rfl rfl ?_
 rintro _ _ ⟨bk3,rfl,rfl⟩
 simp only [List.cons_append,List.nil_append]
 refine Give_R rfl rfl ?_
 rintro _ _ ⟨X2,rfl,rfl,rfl⟩
 simp only [List.cons_append,List.nil_append]
 refine s16 ?_
 refine W_conv (M':=treeH (TL.nil T_Lead 0)::_) (fun w h=>addNilT (τ:=T_Lead) 0 h) ?_
 refine W_while (σ:=Int×(TL T_Lead)) GT.dat (fun ((v3_0,v3_1):Int×(TL T_Lead))=>[(4,.int .i64 v3_0)]) (fun ((v3_0,v3_1):Int×(TL T_Lead))=>[blk bk3 [.int .i64 a0_1,.int .i64 a0_2,(TL.hdr X2),(TL.hdr v3_1)] 27,treeH v3_1]) [(1,_),(2,_),(3,_)] [blk bk1 _ _,blk bk2 _ _,treeH X2] (0,(TL.nil T_Lead 0)) hp sb ms ?_
 clear hp
 rintro ⟨v3_0,v3_1⟩ x3 hp hx3
 replace hp:=dd hp
 refine kq [1,2,3,4] ?_
 refine s9 ?_
 refine kp [1,2,3,4,18] ?_
 refine W_cond rfl (fun q4=>?_) (fun q4=>?_)
 ·replace hp:=cond_t q4 hp
  refine s8 ?_
  replace hp:=idx_bind hp;obtain ⟨⟨⟨u5_1,u5_2⟩,u5_3,u5_4,u5_5,u5_6,u5_7,u5_8⟩,hy5,hp⟩:=hp
  refine L_idxA (X:=a0_4) rfl rfl rfl el25.h (RdT.old h0.2.2.2) hy5 ?_
  refine L_loadW rfl rfl (RdT.at (RdT.old h0.2.2.2) (hy5).2) (by exact agg89.h) ?_
  refine al fun bk5=>?_
  refine s4 ?_
  replace hp:=ba hp;obtain ⟨y7,hy7,hp⟩:=hp
  refine L_mk0 T_Id rfl el33.h (fun X6 hdX6=>?_)
  obtain rfl:GT.dat X6=y7:=hdX6.trans (Option.some.inj hy7)
  clear hy7 hdX6
  refine s2 ?_
  replace hp:=ba hp;obtain ⟨y9,hy9,hp⟩:=hp
  refine L_appT (X:=X6) (Y:=u5_6) rfl rfl rfl el33.h rfl rfl pk (RdT.fst (RdT.snd (RdT.snd (RdT.snd (RdT.snd (RdT.of (RdT.old h0.2.2.2) (hy5).2)))))) hy9 (by decide) (fun X8 hdX8=>?_)
  subst hdX8
  refine s5 ?_
  replace hp:=ba hp;obtain ⟨y11,hy11,hp⟩:=hp
  refine L_mk0 Int rfl el87.h (fun X10 hdX10=>?_)
  obtain rfl:GT.dat X10=y11:=hdX10.trans (Option.some.inj hy11)
  clear hy11 hdX10
  refine s2 ?_
  replace hp:=ba hp;obtain ⟨y13,hy13,hp⟩:=hp
  refine L_appT (X:=X10) (Y:=u5_7) rfl rfl rfl el87.h rfl rfl pk (RdT.fst (RdT.snd (RdT.snd (RdT.snd (RdT.snd (RdT.snd (RdT.of (RdT.old h0.2.2.2) (hy5).2))))))) hy13 (by decide) (fun X12 hdX12=>?_)
  subst hdX12
  refine s7 ?_
  refine L_buildSlice1 rfl rfl el25.h rfl (by decide) (by decide) rfl (fun bb39=>?_)
  replace hp:=ba hp;obtain ⟨y15,hy15,hp⟩:=hp
  refine jL (((u5_1,u5_2),u5_3,u5_4,u5_5,X8,X12,u5_8):T_Lead) ?_
  refine L_app1m (X:=v3_1) (((u5_1,u5_2),u5_3,u5_4,u5_5,X8,X12,u5_8):T_Lead) rfl rfl rfl el25.h rfl rfl pk mm pk hy15 (by decide) (fun X14 hdX14 hmX14=>?_)
  subst hdX14
  refine s8 ?_
  exact ⟨(IntKind.wrap .i64 (v3_0+1),X14),sb,(.sub ms),some_eq hp⟩
 ·replace hp:=cond_f q4 hp
  refine W_exit ?_
  replace hp:=map_any hp;obtain ⟨a16,hp,z_16⟩:=hp
  obtain rfl:=hx3 _ z_16
  refine s5 ?_
  obtain rfl:=sj hp
  refine jW ((a0_1,a0_2,X2,v3_1):T_ENode) ?_
  refine s1 ?_
  refine res1 rfl (ResOK.cell rfl mm (by exact agg27.h)) ⟨(a0_1,a0_2,X2,v3_1),rfl,rfl,rfl⟩ ms
noncomputable def s_l9Put (a0:D_ENode) (a1:D_Lead):Option D_ENode :=
 Option.bind (s_l9At (a0.1,a0.2.1,a0.2.2.1,a0.2.2.2) (a1.1.1,a1.1.2)) (fun y1=>cond (decide (y1 < 0)) (Option.bind (some ([]:List D_Lead)) (fun y4=>Option.bind (appP y4 a0.2.2.2) (fun y6=>Option.bind (appP y6 [((a1.1.1,a1.1.2),a1.2.1,a1.2.2.1,a1.2.2.2.1,a1.2.2.2.2.1,a1.2.2.2.2.2.1,a1.2.2.2.2.2.2)]) (fun y8=>some (a0.1,a0.2.1,a0.2.2.1,y8))))) (Option.bind (idx a0.2.2.2 y1) (fun y9=>Option.bind (some (a0.2.2.2.set (y1.toNat) ((a1.1.1,a1.1.2),a1.2.1,a1.2.2.1,a1.2.2.2.1,a1.2.2.2.2.1,a1.2.2.2.2.2.1,a1.2.2.2.2.2.2))) (fun y11=>some (a0.1,a0.2.1,a0.2.2.1,y11)))))
theorem s_l9Put_walk (w:World) (a0:T_ENode) (a1:T_Lead) (h1:GT.rd w (fps [rowH a0.2.2.2]) a1) (h0_2:GT.rd w (fps [rowH a0.2.2.2]) a0.2.2.1) (h0_3:GT.rd w (fps [rowH a0.2.2.2]) (EL.mk a0.2.2.2.els)) (r:D_ENode) (hp:s_l9Put (GT.dat a0) (GT.dat a1)=some r):Spec Tryz.prog 67 [.agg (GT.cells a0).toArray,.agg (GT.cells a1).toArray].toArray w [rowH a0.2.2.2] (fun v M=>∃ (x0:T_ENode) (B:BL),v=.agg (GT.cells x0).toArray∧GT.dat x0=r∧M=[rowH x0.2.2.2,frz B.l (a0.2.2.1,((EL.mk a0.2.2.2.els),a1)) (x0.2.2.1,(EL.mk x0.2.2.2.els))]):=by
 obtain ⟨a0_1,a0_2,a0_3,a0_4⟩:=a0
 obtain ⟨⟨a1_1,a1_2⟩,a1_3,a1_4,a1_5,a1_6,a1_7,a1_8⟩:=a1
 change Spec _ _ ([Value.agg #[.int .i64 a0_1,.int .i64 a0_2,(TL.hdr a0_3),(TL.hdr a0_4)],Value.agg #[.int .i64 a1_1,.int .i64 a1_2,.int .i64 a1_3,.int .i64 a1_4,.int .i64 a1_5,(TL.hdr a1_6),(TL.hdr a1_7),.bool a1_8]]:List Value).toArray w _ _
 refine Spec.intro Tryz.func67 rfl Tryz.ntmps67 rfl ?_
 unfold s_l9Put at hp
 replace hp:=dd hp
 refine s2 ?_
 refine bx fun bk2=>?_
 refine bx fun bk3=>?_
 refine al fun bk4=>?_
 refine s5 ?_
 refine L_loadW rfl rfl (RdC.seg (RdC.blk mm) 0 2 rfl) (by exact agg29.h) ?_
 replace hp:=ba hp;obtain ⟨y1,hy1,hp⟩:=hp
 refine L_callX rfl fn54.h rfl (by exact fun w hw=>s_l9At_walk w (a0_1,a0_2,a0_3,a0_4) (a1_1,a1_2) (RdT.now (RdT.pair RdT.int (RdT.pair RdT.int (RdT.pair (RdT.old h0_2) (RdT.rowE mm (RdT.old h0_3))))) hw) (RdT.now (RdT.pair RdT.int RdT.int) hw) _ hy1) ?_
 refine s8 ?_
 refine kp [2,3,4,5,12] ?_
 refine W_cond rfl (fun q2=>?_) (fun q2=>?_)
 ·replace hp:=cond_t q2 hp
  refine s2 ?_
  replace hp:=ba hp;obtain ⟨y4,hy4,hp⟩:=hp
  refine L_mk0R T_Lead rfl el25.h (fun X3 hdX3 hzX3=>?_)
  obtain rfl:GT.dat X3=y4:=hdX3.trans (Option.some.inj hy4)
  clear hy4 hdX3
  refine s2 ?_
  refine L_conv (M':=rowH X3::elsT X3.els::_) (fun w h=>row_open pk h) ?_
  replace hp:=ba hp;obtain ⟨y6,hy6,hp⟩:=hp
  refine L_appAllR (X:=X3) (Y:=a0_4) rfl rfl rfl el25.h rfl rfl pk (RdT.rowE mm (RdT.old h0_3)) hy6 (by decide) (fun X5 hdX5 heX5=>?_)
  subst hdX5
  refine s6 ?_
  refine L_buildSlice1 rfl rfl el25.h rfl (by decide) (by decide) rfl (fun bb19=>?_)
  replace hp:=ba hp;obtain ⟨y8,hy8,hp⟩:=hp
  refine L_app1R (X:=X5) (((a1_1,a1_2),a1_3,a1_4,a1_5,a1_6,a1_7,a1_8):T_Lead) rfl rfl rfl el25.h rfl rfl pk mm hy8 (by decide) (fun X7 hdX7 heX7=>?_)
  subst hdX7
  refine s8 ?_
  obtain rfl:=sj hp
  refine W_conv (M':=frz (fps [elsT X3.els,rowH a0_4]) (a0_3,((EL.mk a0_4.els),((a1_1,a1_2),a1_3,a1_4,a1_5,a1_6,a1_7,a1_8))) (a0_3,(EL.mk X7.els))::_) (fun w h=>pack [elsT X3.els,rowH a0_4] pc (fun w' S ha=>by obtain ⟨h0_2,h0_3,h1⟩:=ha;exact (RdP.pair (RdP.old h0_2) (RdP.elSub (fun _ hx=>heX7 ▸ hx) (RdP.elApp (RdP.elSub (fun _ hx=>heX5 ▸ hx) (RdP.elApp (RdP.els mm) (RdP.elTL (RdP.rowE mm (RdP.old h0_3))))) (RdP.elOne (RdP.pair (RdP.pair RdP.int RdP.int) (RdP.pair RdP.int (RdP.pair RdP.int (RdP.pair RdP.int (RdP.pair (RdP.old h1.2.2.2.2.1) (RdP.pair (RdP.old h1.2.2.2.2.2.1) RdP.bool))))))))))) h) ?_
  refine s1 ?_
  refine res1 rfl (ResOK.cell rfl mm (by exact agg27.h)) ⟨(a0_1,a0_2,a0_3,X7),(⟨fps [elsT X3.els,rowH a0_4]⟩:BL),rfl,rfl,rfl⟩ ms
 ·replace hp:=cond_f q2 hp
  refine s7 ?_
  replace hp:=idx_bind hp;obtain ⟨⟨⟨u9_1,u9_2⟩,u9_3,u9_4,u9_5,u9_6,u9_7,u9_8⟩,hy9,hp⟩:=hp
  refine L_idxA (X:=a0_4) rfl rfl rfl el25.h (RdT.rowE mm (RdT.old h0_3)) hy9 ?_
  replace hp:=ba hp;obtain ⟨y11,hy11,hp⟩:=hp
  refine L_stR (X:=a0_4) (i:=y1.toNat) (v:=(((a1_1,a1_2),a1_3,a1_4,a1_5,a1_6,a1_7,a1_8):T_Lead)) rfl rfl pk hy9.2 agg89.h (fun X10 heX10 hhX10 hdX10=>?_)
  obtain rfl:GT.dat X10=y11:=hdX10.trans (Option.some.inj hy11)
  clear hy11 hdX10
  try rw [← hhX10]
  refine s6 ?_
  obtain rfl:=sj hp
  refine W_conv (M':=frz (fps []) (a0_3,((EL.mk a0_4.els),((a1_1,a1_2),a1_3,a1_4,a1_5,a1_6,a1_7,a1_8))) (a0_3,(EL.mk X10.els))::_) (fun w h=>pack [] pc (fun w' S ha=>by obtain ⟨h0_2,h0_3,h1⟩:=ha;exact (RdP.pair (RdP.old h0_2) (RdP.elSub (fun _ hx=>heX10 ▸ hx) (RdP.elSet (RdP.old h0_3) (RdP.pair (RdP.pair RdP.int RdP.int) (RdP.pair RdP.int (RdP.pair RdP.int (RdP.pair RdP.int (RdP.pair (RdP.old h1.2.2.2.2.1) (RdP.pair (RdP.old h1.2.2.2.2.2.1) RdP.bool)))))))))) h) ?_
  refine s1 ?_
  refine res1 rfl (ResOK.cell rfl mm (by exact agg27.h)) ⟨(a0_1,a0_2,a0_3,X10),(⟨fps []⟩:BL),rfl,rfl,rfl⟩ ms
noncomputable def s_l9Both (a0:D_ENode) (a1:D_EMsg):Option (List D_EMsg) :=
 Option.bind (some ([]:List D_EMsg)) (fun y2=>whileP (fun s3:(List D_EMsg)×Int=>cond (decide (s3.2 < 3)) (cond (decide (s3.2=a0.1)) (some (.inl ((s3.1,IntKind.wrap .i64 (s3.2+1))))) (Option.bind (s_l4Copy (a1.2.2.2.2.2.1.1,a1.2.2.2.2.2.1.2.1,a1.2.2.2.2.2.1.2.2.1,a1.2.2.2.2.2.1.2.2.2.1,a1.2.2.2.2.2.1.2.2.2.2.1,a1.2.2.2.2.2.1.2.2.2.2.2.1,a1.2.2.2.2.2.1.2.2.2.2.2.2.1,a1.2.2.2.2.2.1.2.2.2.2.2.2.2)) (fun y6=>Option.bind (some ([]:List D_Id)) (fun y8=>Option.bind (appP y8 a1.2.2.2.2.2.2.2.1) (fun y10=>Option.bind (appP s3.1 [(a1.1,a0.1,s3.2,(a1.2.2.2.1.1,a1.2.2.2.1.2),a1.2.2.2.2.1,(y6.1,y6.2.1,y6.2.2.1,y6.2.2.2.1,y6.2.2.2.2.1,y6.2.2.2.2.2.1,y6.2.2.2.2.2.2.1,y6.2.2.2.2.2.2.2),a1.2.2.2.2.2.2.1,y10,a1.2.2.2.2.2.2.2.2.1,(-1),a1.2.2.2.2.2.2.2.2.2.2)]) (fun y12=>some (.inl ((y12,IntKind.wrap .i64 (s3.2+1)))))))))) (Option.map .inr (some s3.1))) (y2,0))
theorem s_l9Both_walk (w:World) (a0:T_ENode) (a1:T_EMsg) (h0:GT.rd w [] a0) (h1:GT.rd w [] a1) (r:(List D_EMsg)) (hp:s_l9Both (GT.dat a0) (GT.dat a1)=some r):Spec Tryz.prog 68 [.agg (GT.cells a0).toArray,.agg (GT.cells a1).toArray].toArray w [] (fun v M=>∃ (x0:TL T_EMsg),v=(TL.hdr x0)∧GT.dat x0=r∧M=[treeH x0]):=by
 obtain ⟨a0_1,a0_2,a0_3,a0_4⟩:=a0
 obtain ⟨a1_1,a1_2,a1_3,⟨a1_4,a1_5⟩,a1_6,⟨a1_7,a1_8,a1_9,a1_10,a1_11,a1_12,a1_13,a1_14⟩,a1_15,a1_16,a1_17,a1_18,a1_19⟩:=a1
 change Spec _ _ ([Value.agg #[.int .i64 a0_1,.int .i64 a0_2,(TL.hdr a0_3),(TL.hdr a0_4)],Value.agg #[.int .i64 a1_1,.int .i64 a1_2,.int .i64 a1_3,.int .i64 a1_4,.int .i64 a1_5,.int .i64 a1_6,.int .i64 a1_7,.int .i64 a1_8,.int .i64 a1_9,.string a1_10,.string a1_11,.string a1_12,.int .i64 a1_13,(TL.hdr a1_14),.int .i64 a1_15,(TL.hdr a1_16),.int .i64 a1_17,.int .i64 a1_18,.bool a1_19]]:List Value).toArray w [] _
 refine Spec.intro Tryz.func68 rfl Tryz.ntmps68 rfl ?_
 unfold s_l9Both at hp
 replace hp:=dd hp
 refine s2 ?_
 refine bx fun bk2=>?_
 refine bx fun bk3=>?_
 refine L_assign (v:=(TL.hdr (TL.nil T_EMsg 0))) rfl rfl ?_
 refine s3 ?_
 replace hp:=ba hp;obtain ⟨y2,hy2,hp⟩:=hp
 refine L_mk0R T_EMsg rfl el38.h (fun X1 hdX1 hzX1=>?_)
 obtain rfl:GT.dat X1=y2:=hdX1.trans (Option.some.inj hy2)
 clear hy2 hdX1
 refine s8 ?_
 refine W_while (σ:=(TL T_EMsg)×Int) GT.dat (fun ((v3_0,v3_1):(TL T_EMsg)×Int)=>[(5,(TL.hdr v3_0)),(6,.int .i64 v3_1)]) (fun ((v3_0,v3_1):(TL T_EMsg)×Int)=>[treeH v3_0]) [(2,_),(3,_)] [blk bk2 _ _,blk bk3 _ _] (X1,0) hp sb ms ?_
 clear hp
 rintro ⟨v3_0,v3_1⟩ x3 hp hx3
 replace hp:=dd hp
 refine kq [2,3,5,6] ?_
 refine s6 ?_
 refine kp [2,3,5,6,10] ?_
 refine W_cond rfl (fun q4=>?_) (fun q4=>?_)
 ·replace hp:=cond_t q4 hp
  refine s11 ?_
  refine kp [2,3,5,6,16] ?_
  refine W_cond rfl (fun q5=>?_) (fun q5=>?_)
  ·replace hp:=cond_t q5 hp
   refine W_exit ?_
   refine s5 ?_
   exact ⟨(v3_0,IntKind.wrap .i64 (v3_1+1)),sb,(.sub ms),some_eq hp⟩
  ·replace hp:=cond_f q5 hp
   refine s4 ?_
   refine al fun bk7=>?_
   refine s20 ?_
   refine s3 ?_
   refine L_loadW rfl rfl (RdC.seg (RdC.blk mm) 6 8 rfl) (by exact agg32.h) ?_
   replace hp:=ba hp;obtain ⟨y6,hy6,hp⟩:=hp
   refine L_callR rfl fn87.h rfl (by exact fun w hw=>s_l4Copy_walk w (a1_7,a1_8,a1_9,a1_10,a1_11,a1_12,a1_13,a1_14) (RdT.now (RdT.pair RdT.int (RdT.pair RdT.int (RdT.pair RdT.int (RdT.pair RdT.str (RdT.pair RdT.str (RdT.pair RdT.str (RdT.pair RdT.int (RdT.old h1.2.2.2.2.2.1.2.2.2.2.2.2.2)))))))) hw) _ hy6) ?_
   rintro _ _ ⟨⟨y6x0_1,y6x0_2,y6x0_3,y6x0_4,y6x0_5,y6x0_6,y6x0_7,y6x0_8⟩,rfl,rfl,rfl⟩
   refine sc ?_
   replace hp:=dd hp
   refine xL ((y6x0_1,y6x0_2,y6x0_3,y6x0_4,y6x0_5,y6x0_6,y6x0_7,y6x0_8):T_Cmd) ?_
   refine s1 ?_
   refine L_storeA (fo:=6) rfl rfl pk (by exact agg32.h) (Nat.le_of_ble_eq_true rfl) ocs rfl ?_
   refine s3 ?_
   replace hp:=ba hp;obtain ⟨y8,hy8,hp⟩:=hp
   refine L_mk0 T_Id rfl el33.h (fun X7 hdX7=>?_)
   obtain rfl:GT.dat X7=y8:=hdX7.trans (Option.some.inj hy8)
   clear hy8 hdX7
   refine s2 ?_
   replace hp:=ba hp;obtain ⟨y10,hy10,hp⟩:=hp
   refine L_appT (X:=X7) (Y:=a1_16) rfl rfl rfl el33.h rfl rfl pk (RdT.old h1.2.2.2.2.2.2.2.1) hy10 (by decide) (fun X9 hdX9=>?_)
   subst hdX9
   refine s6 ?_
   refine L_buildSlice1 rfl rfl el38.h rfl (by decide) (by decide) rfl (fun bb35=>?_)
   replace hp:=ba hp;obtain ⟨y12,hy12,hp⟩:=hp
   refine jL ((a1_1,a0_1,v3_1,(a1_4,a1_5),a1_6,(y6x0_1,y6x0_2,y6x0_3,y6x0_4,y6x0_5,y6x0_6,y6x0_7,y6x0_8),a1_15,X9,a1_17,(-1),a1_19):T_EMsg) ?_
   refine L_app1m (X:=v3_0) ((a1_1,a0_1,v3_1,(a1_4,a1_5),a1_6,(y6x0_1,y6x0_2,y6x0_3,y6x0_4,y6x0_5,y6x0_6,y6x0_7,y6x0_8),a1_15,X9,a1_17,(-1),a1_19):T_EMsg) rfl rfl rfl el38.h rfl rfl pk mm pk hy12 (by decide) (fun X11 hdX11 hmX11=>?_)
   subst hdX11
   refine s7 ?_
   exact ⟨(X11,IntKind.wrap .i64 (v3_1+1)),sb,(.sub ms),some_eq hp⟩
 ·replace hp:=cond_f q4 hp
  refine W_exit ?_
  replace hp:=map_any hp;obtain ⟨a13,hp,z_13⟩:=hp
  obtain rfl:=hx3 _ z_13
  refine s5 ?_
  obtain rfl:=sj hp
  refine s1 ?_
  refine res1 rfl (ResOK.tmp rfl) ⟨v3_0,rfl,rfl,rfl⟩ ms
noncomputable def s_ENodeRecover (a0:D_ENode) (a1:D_Id):Option (D_ENode×(List D_EMsg)×Bool) :=
 Option.bind (s_ENodeOk (a0.1,a0.2.1,a0.2.2.1,a0.2.2.2)) (fun y1=>cond (!y1) (Option.bind (some ([]:List D_EMsg)) (fun y4=>some ((0,0,([]:List D_Inst),([]:List D_Lead)),y4,false))) (Option.bind (s_l9Copy (a0.1,a0.2.1,a0.2.2.1,a0.2.2.2)) (fun y5=>Option.bind (s_l8Id (a1.1,a1.2)) (fun y6=>cond (!y6) (Option.bind (some ([]:List D_EMsg)) (fun y9=>some ((y5.1,y5.2.1,y5.2.2.1,y5.2.2.2),y9,false))) (Option.bind (s_InstAt y5.2.2.1 (a1.1,a1.2)) (fun y10=>jbind (cond (decide (3≤y10.2.1)) (some (.inl (IntKind.wrap .i64 (y10.2.1+1)))) (some (.inl (3)))) (fun s11:Int=>whileP (fun s13:Int=>cond (!decide ((s13).tmod 3=a0.1)) (some (.inl (IntKind.wrap .i64 (s13+1)))) (Option.map .inr (gb (!((decide (y10.2.2.2.1=3))||(decide (600 < s13)))) (s_l9At (y5.1,y5.2.1,y5.2.2.1,y5.2.2.2) (a1.1,a1.2)) (fun y16=>cond ((((decide (y10.2.2.2.1=3))||(decide (600 < s13)))||((decide (y16 < 0))&&(decide (8≤(y5.2.2.2.length:Int)))))||((decide (a1.1=a0.1))&&(decide (a0.2.1≤a1.2)))) (Option.bind (some ([]:List D_EMsg)) (fun y19=>some ((y5.1,y5.2.1,y5.2.2.1,y5.2.2.2),y19,false))) (Option.bind (s_l8Put y5.2.2.1 ((y10.1.1,y10.1.2),s13,y10.2.2.1,y10.2.2.2.1,(y10.2.2.2.2.1.1,y10.2.2.2.2.1.2.1,y10.2.2.2.2.1.2.2.1,y10.2.2.2.2.1.2.2.2.1,y10.2.2.2.2.1.2.2.2.2.1,y10.2.2.2.2.1.2.2.2.2.2.1,y10.2.2.2.2.1.2.2.2.2.2.2.1,y10.2.2.2.2.1.2.2.2.2.2.2.2),y10.2.2.2.2.2.1,y10.2.2.2.2.2.2.1,y10.2.2.2.2.2.2.2)) (fun y20=>Option.bind (s_l9Put (y5.1,y5.2.1,y20,y5.2.2.2) ((a1.1,a1.2),s13,3,0,([]:List D_Id),([]:List Int),false)) (fun y21=>Option.bind (s_l9Copy (y21.1,y21.2.1,y21.2.2.1,y21.2.2.2)) (fun y22=>Option.bind (s_l9Both (y21.1,y21.2.1,y21.2.2.1,y21.2.2.2) (6,0,0,(a1.1,a1.2),s13,(0,0,0,ByteArray.empty,ByteArray.empty,ByteArray.empty,0,([]:List ByteArray)),0,([]:List D_Id),0,0,false)) (fun y23=>some ((y22.1,y22.2.1,y22.2.2.1,y22.2.2.2),y23,true)))))))))) s11)))))))
theorem s_ENodeRecover_walk (w:World) (a0:T_ENode) (a1:T_Id) (h0:GT.rd w [] a0) (h1:GT.rd w [] a1) (r:D_ENode×(List D_EMsg)×Bool) (hp:s_ENodeRecover (GT.dat a0) (GT.dat a1)=some r):Spec Tryz.prog 18 [.agg (GT.cells a0).toArray,.agg (GT.cells a1).toArray].toArray w [] (fun v M=>∃ (x0:T_ENode) (x1:TL T_EMsg) (x2:Bool),v=.tuple #[.agg (GT.cells x0).toArray,(TL.hdr x1),.bool x2]∧(GT.dat x0,GT.dat x1,GT.dat x2)=r∧M=[treeH x0,treeH x1]):=by
 obtain ⟨a0_1,a0_2,a0_3,a0_4⟩:=a0
 obtain ⟨a1_1,a1_2⟩:=a1
 change Spec _ _ ([Value.agg #[.int .i64 a0_1,.int .i64 a0_2,(TL.hdr a0_3),(TL.hdr a0_4)],Value.agg #[.int .i64 a1_1,.int .i64 a1_2]]:List Value).toArray w [] _
 refine Spec.intro Tryz.func18 rfl Tryz.ntmps18 rfl ?_
 unfold s_ENodeRecover at hp
 replace hp:=dd hp
 refine s2 ?_
 refine bx fun bk2=>?_
 refine bx fun bk3=>?_
 refine al fun bk4=>?_
 refine L_assign (v:=(TL.hdr (TL.nil T_EMsg 0))) rfl rfl ?_
 refine s6 ?_
 replace hp:=ba hp;obtain ⟨y1,hy1,hp⟩:=hp
 refine L_callX rfl fn13.h rfl (by exact fun w hw=>s_ENodeOk_walk w (a0_1,a0_2,a0_3,a0_4) (RdT.now (RdT.pair RdT.int (RdT.pair RdT.int (RdT.pair (RdT.old h0.2.2.1) (RdT.old h0.2.2.2)))) hw) _ hy1) ?_
 refine s2 ?_
 refine kp [2,3,4,12] ?_
 refine W_cond rfl (fun q2=>?_) (fun q2=>?_)
 ·replace hp:=cond_t q2 hp
  refine s2 ?_
  refine L_build (xs:=[]) (cs:=[.int .i64 0,.int .i64 0,(TL.hdr (TL.nil T_Inst 0)),(TL.hdr (TL.nil T_Lead 0))]) rfl rfl bld27.h rfl ?_
  replace hp:=ba hp;obtain ⟨y4,hy4,hp⟩:=hp
  refine L_mk0R T_EMsg rfl el38.h (fun X3 hdX3 hzX3=>?_)
  obtain rfl:GT.dat X3=y4:=hdX3.trans (Option.some.inj hy4)
  clear hy4 hdX3
  refine s4 ?_
  obtain rfl:=sj hp
  refine W_conv (M':=treeH (TL.nil T_Inst 0)::_) (fun w h=>addNilT (τ:=T_Inst) 0 h) ?_
  refine W_conv (M':=treeH (TL.nil T_Lead 0)::_) (fun w h=>addNilT (τ:=T_Lead) 0 h) ?_
  refine jW ((0,0,(TL.nil T_Inst 0),(TL.nil T_Lead 0)):T_ENode) ?_
  refine s1 ?_
  refine res3 rfl (ResOK.cell rfl mm (by exact agg27.h)) (ResOK.tmp rfl) (ResOK.tmp rfl) ⟨(0,0,(TL.nil T_Inst 0),(TL.nil T_Lead 0)),X3,false,rfl,rfl,rfl⟩ ms
 ·replace hp:=cond_f q2 hp
  refine s4 ?_
  replace hp:=ba hp;obtain ⟨y5,hy5,hp⟩:=hp
  refine L_callR rfl fn46.h rfl (by exact fun w hw=>s_l9Copy_walk w (a0_1,a0_2,a0_3,a0_4) (RdT.now (RdT.pair RdT.int (RdT.pair RdT.int (RdT.pair (RdT.old h0.2.2.1) (RdT.old h0.2.2.2)))) hw) _ hy5) ?_
  rintro _ _ ⟨⟨y5x0_1,y5x0_2,y5x0_3,y5x0_4⟩,rfl,rfl,rfl⟩
  refine sc ?_
  replace hp:=dd hp
  refine xL ((y5x0_1,y5x0_2,y5x0_3,y5x0_4):T_ENode) ?_
  refine al fun bk7=>?_
  refine s6 ?_
  replace hp:=ba hp;obtain ⟨y6,hy6,hp⟩:=hp
  refine L_callX rfl fn56.h rfl (by exact fun w hw=>s_l8Id_walk w (a1_1,a1_2) (RdT.now (RdT.pair RdT.int RdT.int) hw) _ hy6) ?_
  refine s2 ?_
  refine kp [2,3,4,7,19] ?_
  refine W_cond rfl (fun q7=>?_) (fun q7=>?_)
  ·replace hp:=cond_t q7 hp
   refine s3 ?_
   replace hp:=ba hp;obtain ⟨y9,hy9,hp⟩:=hp
   refine L_mk0R T_EMsg rfl el38.h (fun X8 hdX8 hzX8=>?_)
   obtain rfl:GT.dat X8=y9:=hdX8.trans (Option.some.inj hy9)
   clear hy9 hdX8
   refine s4 ?_
   obtain rfl:=sj hp
   refine jW ((y5x0_1,y5x0_2,y5x0_3,y5x0_4):T_ENode) ?_
   refine s1 ?_
   refine res3 rfl (ResOK.cell rfl mm (by exact agg27.h)) (ResOK.tmp rfl) (ResOK.tmp rfl) ⟨(y5x0_1,y5x0_2,y5x0_3,y5x0_4),X8,false,rfl,rfl,rfl⟩ ms
  ·replace hp:=cond_f q7 hp
   refine s6 ?_
   replace hp:=ba hp;obtain ⟨y10,hy10,hp⟩:=hp
   refine L_callR rfl fn14.h rfl (by exact fun w hw=>s_InstAt_walk w y5x0_3 (a1_1,a1_2) (RdT.now (RdT.tree mm) hw) (RdT.now (RdT.pair RdT.int RdT.int) hw) _ hy10) ?_
   rintro _ _ ⟨⟨⟨y10x0_1,y10x0_2⟩,y10x0_3,y10x0_4,y10x0_5,⟨y10x0_6,y10x0_7,y10x0_8,y10x0_9,y10x0_10,y10x0_11,y10x0_12,y10x0_13⟩,y10x0_14,y10x0_15,y10x0_16⟩,rfl,rfl,rfl⟩
   refine sc ?_
   replace hp:=dd hp
   refine xL (((y10x0_1,y10x0_2),y10x0_3,y10x0_4,y10x0_5,(y10x0_6,y10x0_7,y10x0_8,y10x0_9,y10x0_10,y10x0_11,y10x0_12,y10x0_13),y10x0_14,y10x0_15,y10x0_16):T_Inst) ?_
   refine al fun bk8=>?_
   refine s6 ?_
   refine W_jn (σ:=Int) GT.dat (fun (v11_0:Int)=>[(9,.int .i64 v11_0)]) (fun (v11_0:Int)=>[]) [(2,.pointer (some ⟨bk2,0,none⟩)),(3,.pointer (some ⟨bk3,0,none⟩)),(4,.pointer (some ⟨bk4,0,none⟩)),(7,.pointer (some ⟨bk7,0,none⟩)),(8,.pointer (some ⟨bk8,0,none⟩))] [blk bk2 [.int .i64 a0_1,.int .i64 a0_2,(TL.hdr a0_3),(TL.hdr a0_4)] 27,blk bk3 [.int .i64 a1_1,.int .i64 a1_2] 29,blk bk4 [.int .i64 0,.int .i64 0,(TL.hdr (TL.nil T_Inst 0)),(TL.hdr (TL.nil T_Lead 0))] 27,blk bk7 [.int .i64 y5x0_1,.int .i64 y5x0_2,(TL.hdr y5x0_3),(TL.hdr y5x0_4)] 27,blk bk8 [.int .i64 y10x0_1,.int .i64 y10x0_2,.int .i64 y10x0_3,.int .i64 y10x0_4,.int .i64 y10x0_5,.int .i64 y10x0_6,.int .i64 y10x0_7,.int .i64 y10x0_8,.string y10x0_9,.string y10x0_10,.string y10x0_11,.int .i64 y10x0_12,(TL.hdr y10x0_13),.int .i64 y10x0_14,(TL.hdr y10x0_15),.bool y10x0_16] 45,treeH y5x0_3,treeH y5x0_4,treeH y10x0_13,treeH y10x0_15] hp ?_ ?_
   ·clear hp
    intro x11 hp hx11
    refine s7 ?_
    refine kp [2,3,4,7,8,9,29] ?_
    refine W_cond rfl (fun q12=>?_) (fun q12=>?_)
    ·replace hp:=cond_t q12 hp
     refine s6 ?_
     exact ⟨IntKind.wrap .i64 (y10x0_3+1),sb,(.sub ms),some_eq hp⟩
    ·replace hp:=cond_f q12 hp
     refine s1 ?_
     exact ⟨3,sb,(.sub ms),some_eq hp⟩
   ·clear hp
    rintro v11_0 hp
    replace hp:=dd hp
    refine kq [2,3,4,7,8,9] ?_
    refine s2 ?_
    refine W_while (σ:=Int) GT.dat (fun (v13_0:Int)=>[(9,.int .i64 v13_0)]) (fun (v13_0:Int)=>[]) [(2,_),(3,_),(4,_),(7,_),(8,_)] [blk bk2 _ _,blk bk3 _ _,blk bk4 _ _,blk bk7 _ _,blk bk8 _ _,treeH y5x0_3,treeH y5x0_4,treeH y10x0_13,treeH y10x0_15] v11_0 hp sb ms ?_
    clear hp
    rintro v13_0 x13 hp hx13
    replace hp:=dd hp
    refine kq [2,3,4,7,8,9] ?_
    refine s9 ?_
    refine kp [2,3,4,7,8,9,37] ?_
    refine W_cond rfl (fun q14=>?_) (fun q14=>?_)
    ·replace hp:=cond_t q14 hp
     refine s7 ?_
     exact ⟨IntKind.wrap .i64 (v13_0+1),sb,(.sub ms),some_eq hp⟩
    ·replace hp:=cond_f q14 hp
     refine W_exit ?_
     replace hp:=map_any hp;obtain ⟨a15,hp,z_15⟩:=hp
     obtain rfl:=hx13 _ z_15
     refine s2 ?_
     replace hp:=gb_any hp;obtain ⟨y16,hy16,hp⟩:=hp
     refine W_D0 [72] mix (by kernel_rfl) rfl ?_
     refine s10 ?_
     refine D_callX (GC.some rfl rfl) fn54.h (OpVs.cons (OpV.s rfl) (OpVs.cons (OpV.s rfl) (OpVs.nil))) (by exact fun hg w F hF hM=>s_l9At_walk w (y5x0_1,y5x0_2,y5x0_3,y5x0_4) (a1_1,a1_2) (RdT.nowS (RdT.pair RdT.int (RdT.pair RdT.int (RdT.pair (RdT.tree mm) (RdT.tree mm)))) hF hM) (RdT.nowS (RdT.pair RdT.int RdT.int) hF hM) _ (hy16 (gnot hg.2))) ?_
     refine s4 ?_
     refine D_lenP (X:=y5x0_4) (GC.some rfl rfl) (OpV.s rfl) el25.h ?_
     refine s20 ?_
     refine s20 ?_
     refine s12 ?_
     refine kp [3,4,7,8,9,72] ?_
     refine W_cond rfl (fun q17=>?_) (fun q17=>?_)
     ·replace hp:=cond_t q17 hp
      refine s3 ?_
      replace hp:=ba hp;obtain ⟨y19,hy19,hp⟩:=hp
      refine L_mk0R T_EMsg rfl el38.h (fun X18 hdX18 hzX18=>?_)
      obtain rfl:GT.dat X18=y19:=hdX18.trans (Option.some.inj hy19)
      clear hy19 hdX18
      refine s4 ?_
      obtain rfl:=sj hp
      refine jW ((y5x0_1,y5x0_2,y5x0_3,y5x0_4):T_ENode) ?_
      refine s1 ?_
      refine res3 rfl (ResOK.cell rfl mm (by exact agg27.h)) (ResOK.tmp rfl) (ResOK.tmp rfl) ⟨(y5x0_1,y5x0_2,y5x0_3,y5x0_4),X18,false,rfl,rfl,rfl⟩ ms
     ·replace hp:=cond_f q17 hp
      refine s12 ?_
      replace hp:=ba hp;obtain ⟨y20,hy20,hp⟩:=hp
      refine L_callR rfl fn66.h rfl (by exact fun w hw=>s_l8Put_walk w y5x0_3 ((y10x0_1,y10x0_2),v13_0,y10x0_4,y10x0_5,(y10x0_6,y10x0_7,y10x0_8,y10x0_9,y10x0_10,y10x0_11,y10x0_12,y10x0_13),y10x0_14,y10x0_15,y10x0_16) (RdT.now (RdT.tree mm) hw) (RdT.now (RdT.pair (RdT.pair RdT.int RdT.int) (RdT.pair RdT.int (RdT.pair RdT.int (RdT.pair RdT.int (RdT.pair (RdT.pair RdT.int (RdT.pair RdT.int (RdT.pair RdT.int (RdT.pair RdT.str (RdT.pair RdT.str (RdT.pair RdT.str (RdT.pair RdT.int (RdT.tree mm)))))))) (RdT.pair RdT.int (RdT.pair (RdT.tree mm) RdT.bool))))))) hw) _ hy20) ?_
      rintro _ _ ⟨y20x0,By20,rfl,rfl,rfl⟩
      refine sc ?_
      replace hp:=dd hp
      refine s8 ?_
      refine L_build (xs:=[(0,.tmp 83),(1,.tmp 84),(2,.const (.int .i64 3))]) (cs:=[.int .i64 a1_1,.int .i64 a1_2,.int .i64 v13_0,.int .i64 3,.int .i64 0,(TL.hdr (TL.nil T_Id 0)),(TL.hdr (TL.nil Int 0)),.bool false]) rfl rfl bld89.h rfl ?_
      refine L_conv (M':=rowH y5x0_4::elsT y5x0_4.els::_) (fun w h=>row_open pk h) ?_
      replace hp:=ba hp;obtain ⟨y21,hy21,hp⟩:=hp
      refine L_callM [rowH y5x0_4] _ rfl fn67.h rfl pc (by exact fun w hw=>s_l9Put_walk w (y5x0_1,y5x0_2,y20x0,y5x0_4) ((a1_1,a1_2),v13_0,3,0,(TL.nil T_Id 0),(TL.nil Int 0),false) ((RdX.pair (RdX.pair RdX.int RdX.int) (RdX.pair RdX.int (RdX.pair RdX.int (RdX.pair RdX.int (RdX.pair (RdX.nil 0) (RdX.pair (RdX.nil 0) RdX.bool)))))) w hw) ((RdX.frz (B:=By20.l) (a:=(y5x0_3,(((y10x0_1,y10x0_2),v13_0,y10x0_4,y10x0_5,(y10x0_6,y10x0_7,y10x0_8,y10x0_9,y10x0_10,y10x0_11,y10x0_12,y10x0_13),y10x0_14,y10x0_15,y10x0_16):T_Inst))) (t:=y20x0) mm (RdX.pair (RdX.tree mm) (RdX.pair (RdX.pair RdX.int RdX.int) (RdX.pair RdX.int (RdX.pair RdX.int (RdX.pair RdX.int (RdX.pair (RdX.pair RdX.int (RdX.pair RdX.int (RdX.pair RdX.int (RdX.pair RdX.str (RdX.pair RdX.str (RdX.pair RdX.str (RdX.pair RdX.int (RdX.tree mm)))))))) (RdX.pair RdX.int (RdX.pair (RdX.tree mm) RdX.bool))))))))) w hw) ((RdX.els mm) w hw) _ hy21) ?_
      rintro _ _ ⟨⟨y21x0_1,y21x0_2,y21x0_3,y21x0_4⟩,By21,rfl,rfl,rfl⟩
      refine sc ?_
      replace hp:=dd hp
      refine s3 ?_
      replace hp:=ba hp;obtain ⟨y22,hy22,hp⟩:=hp
      refine W_DS (pre:=[_,_,_,_,_,_]) (suf:=[_,_,_,_]) [88,89,92] [] _ pc mix (by kernel_rfl) (by kernel_rfl) rfl ?_
      refine s1 ?_
      refine D_call1R (fun v M=>∃ (x0:T_ENode),v=.agg (GT.cells x0).toArray∧GT.dat x0=y22∧M=[treeH x0]) fn46.h (OpVs.cons (OpV.t rfl) (OpVs.nil)) (by exact fun w F hF hM=>s_l9Copy_walk w (y21x0_1,y21x0_2,y21x0_3,y21x0_4) (RdT.nowS (RdT.pair RdT.int (RdT.pair RdT.int (RdT.pair (RdT.fst (RdT.frz (B:=By21.l) (a:=(y20x0,((EL.mk y5x0_4.els),(((a1_1,a1_2),v13_0,3,0,(TL.nil T_Id 0),(TL.nil Int 0),false):T_Lead)))) (t:=(y21x0_3,(EL.mk y21x0_4.els))) mm (RdT.pair (RdT.frz (B:=By20.l) (a:=(y5x0_3,(((y10x0_1,y10x0_2),v13_0,y10x0_4,y10x0_5,(y10x0_6,y10x0_7,y10x0_8,y10x0_9,y10x0_10,y10x0_11,y10x0_12,y10x0_13),y10x0_14,y10x0_15,y10x0_16):T_Inst))) (t:=y20x0) mm (RdT.pair (RdT.tree mm) (RdT.pair (RdT.pair RdT.int RdT.int) (RdT.pair RdT.int (RdT.pair RdT.int (RdT.pair RdT.int (RdT.pair (RdT.pair RdT.int (RdT.pair RdT.int (RdT.pair RdT.int (RdT.pair RdT.str (RdT.pair RdT.str (RdT.pair RdT.str (RdT.pair RdT.int (RdT.tree mm)))))))) (RdT.pair RdT.int (RdT.pair (RdT.tree mm) RdT.bool))))))))) (RdT.pair (RdT.els mm) (RdT.pair (RdT.pair RdT.int RdT.int) (RdT.pair RdT.int (RdT.pair RdT.int (RdT.pair RdT.int (RdT.pair (RdT.nil 0) (RdT.pair (RdT.nil 0) RdT.bool)))))))))) (RdT.rowE mm (RdT.snd (RdT.frz (B:=By21.l) (a:=(y20x0,((EL.mk y5x0_4.els),(((a1_1,a1_2),v13_0,3,0,(TL.nil T_Id 0),(TL.nil Int 0),false):T_Lead)))) (t:=(y21x0_3,(EL.mk y21x0_4.els))) mm (RdT.pair (RdT.frz (B:=By20.l) (a:=(y5x0_3,(((y10x0_1,y10x0_2),v13_0,y10x0_4,y10x0_5,(y10x0_6,y10x0_7,y10x0_8,y10x0_9,y10x0_10,y10x0_11,y10x0_12,y10x0_13),y10x0_14,y10x0_15,y10x0_16):T_Inst))) (t:=y20x0) mm (RdT.pair (RdT.tree mm) (RdT.pair (RdT.pair RdT.int RdT.int) (RdT.pair RdT.int (RdT.pair RdT.int (RdT.pair RdT.int (RdT.pair (RdT.pair RdT.int (RdT.pair RdT.int (RdT.pair RdT.int (RdT.pair RdT.str (RdT.pair RdT.str (RdT.pair RdT.str (RdT.pair RdT.int (RdT.tree mm)))))))) (RdT.pair RdT.int (RdT.pair (RdT.tree mm) RdT.bool))))))))) (RdT.pair (RdT.els mm) (RdT.pair (RdT.pair RdT.int RdT.int) (RdT.pair RdT.int (RdT.pair RdT.int (RdT.pair RdT.int (RdT.pair (RdT.nil 0) (RdT.pair (RdT.nil 0) RdT.bool)))))))))))))) hF hM) _ hy22) ?_
      refine s3 ?_
      refine D_build (xs:=[(0,.const (.int .i64 6)),(3,.tmp 90),(4,.tmp 91)]) (ps:=[(0,.int .i64 6),(3,.agg #[.int .i64 a1_1,.int .i64 a1_2]),(4,.int .i64 v13_0)]) (cs:=[.int .i64 6,.int .i64 0,.int .i64 0,.int .i64 a1_1,.int .i64 a1_2,.int .i64 v13_0,.int .i64 0,.int .i64 0,.int .i64 0,.string ByteArray.empty,.string ByteArray.empty,.string ByteArray.empty,.int .i64 0,(TL.hdr (TL.nil ByteArray 0)),.int .i64 0,(TL.hdr (TL.nil T_Id 0)),.int .i64 0,.int .i64 0,.bool false]) (OpVp.cons OpV.c (OpVp.cons (OpV.t rfl) (OpVp.cons (OpV.t rfl) (OpVp.nil)))) bld35.h rfl ?_
      refine s5 ?_
      refine Give_R rfl rfl ?_
      rintro _ _ ⟨⟨y22x0_1,y22x0_2,y22x0_3,y22x0_4⟩,rfl,rfl,rfl⟩
      refine s2 ?_
      refine sc ?_
      replace hp:=dd hp
      refine xL ((y22x0_1,y22x0_2,y22x0_3,y22x0_4):T_ENode) ?_
      replace hp:=ba hp;obtain ⟨y23,hy23,hp⟩:=hp
      refine L_callR rfl fn68.h rfl (by exact fun w hw=>s_l9Both_walk w (y21x0_1,y21x0_2,y21x0_3,y21x0_4) (6,0,0,(a1_1,a1_2),v13_0,(0,0,0,ByteArray.empty,ByteArray.empty,ByteArray.empty,0,(TL.nil ByteArray 0)),0,(TL.nil T_Id 0),0,0,false) (RdT.now (RdT.pair RdT.int (RdT.pair RdT.int (RdT.pair (RdT.fst (RdT.frz (B:=By21.l) (a:=(y20x0,((EL.mk y5x0_4.els),(((a1_1,a1_2),v13_0,3,0,(TL.nil T_Id 0),(TL.nil Int 0),false):T_Lead)))) (t:=(y21x0_3,(EL.mk y21x0_4.els))) mm (RdT.pair (RdT.frz (B:=By20.l) (a:=(y5x0_3,(((y10x0_1,y10x0_2),v13_0,y10x0_4,y10x0_5,(y10x0_6,y10x0_7,y10x0_8,y10x0_9,y10x0_10,y10x0_11,y10x0_12,y10x0_13),y10x0_14,y10x0_15,y10x0_16):T_Inst))) (t:=y20x0) mm (RdT.pair (RdT.tree mm) (RdT.pair (RdT.pair RdT.int RdT.int) (RdT.pair RdT.int (RdT.pair RdT.int (RdT.pair RdT.int (RdT.pair (RdT.pair RdT.int (RdT.pair RdT.int (RdT.pair RdT.int (RdT.pair RdT.str (RdT.pair RdT.str (RdT.pair RdT.str (RdT.pair RdT.int (RdT.tree mm)))))))) (RdT.pair RdT.int (RdT.pair (RdT.tree mm) RdT.bool))))))))) (RdT.pair (RdT.els mm) (RdT.pair (RdT.pair RdT.int RdT.int) (RdT.pair RdT.int (RdT.pair RdT.int (RdT.pair RdT.int (RdT.pair (RdT.nil 0) (RdT.pair (RdT.nil 0) RdT.bool)))))))))) (RdT.rowE mm (RdT.snd (RdT.frz (B:=By21.l) (a:=(y20x0,((EL.mk y5x0_4.els),(((a1_1,a1_2),v13_0,3,0,(TL.nil T_Id 0),(TL.nil Int 0),false):T_Lead)))) (t:=(y21x0_3,(EL.mk y21x0_4.els))) mm (RdT.pair (RdT.frz (B:=By20.l) (a:=(y5x0_3,(((y10x0_1,y10x0_2),v13_0,y10x0_4,y10x0_5,(y10x0_6,y10x0_7,y10x0_8,y10x0_9,y10x0_10,y10x0_11,y10x0_12,y10x0_13),y10x0_14,y10x0_15,y10x0_16):T_Inst))) (t:=y20x0) mm (RdT.pair (RdT.tree mm) (RdT.pair (RdT.pair RdT.int RdT.int) (RdT.pair RdT.int (RdT.pair RdT.int (RdT.pair RdT.int (RdT.pair (RdT.pair RdT.int (RdT.pair RdT.int (RdT.pair RdT.int (RdT.pair RdT.str (RdT.pair RdT.str (RdT.pair RdT.str (RdT.pair RdT.int (RdT.tree mm)))))))) (RdT.pair RdT.int (RdT.pair (RdT.tree mm) RdT.bool))))))))) (RdT.pair (RdT.els mm) (RdT.pair (RdT.pair RdT.int RdT.int) (RdT.pair RdT.int (RdT.pair RdT.int (RdT.pair RdT.int (RdT.pair (RdT.nil 0) (RdT.pair (RdT.nil 0) RdT.bool)))))))))))))) hw) (RdT.now (RdT.pair RdT.int (RdT.pair RdT.int (RdT.pair RdT.int (RdT.pair (RdT.pair RdT.int RdT.int) (RdT.pair RdT.int (RdT.pair (RdT.pair RdT.int (RdT.pair RdT.int (RdT.pair RdT.int (RdT.pair RdT.str (RdT.pair RdT.str (RdT.pair RdT.str (RdT.pair RdT.int (RdT.nil 0)))))))) (RdT.pair RdT.int (RdT.pair (RdT.nil 0) (RdT.pair RdT.int (RdT.pair RdT.int RdT.bool)))))))))) hw) _ hy23) ?_
      rintro _ _ ⟨y23x0,rfl,rfl,rfl⟩
      refine sc ?_
      replace hp:=dd hp
      refine s4 ?_
      obtain rfl:=sj hp
      refine jW ((y22x0_1,y22x0_2,y22x0_3,y22x0_4):T_ENode) ?_
      refine s1 ?_
      refine res3 rfl (ResOK.cell rfl mm (by exact agg27.h)) (ResOK.tmp rfl) (ResOK.tmp rfl) ⟨(y22x0_1,y22x0_2,y22x0_3,y22x0_4),y23x0,true,rfl,rfl,rfl⟩ ms
end Go.Proofs.SL
namespace Go.Proofs.SL
open Go
set_option maxHeartbeats 2000000
instance fld35_10:FldF Tryz.prog 35 10 18:=⟨by kernel_rfl⟩
instance fld89_6:FldF Tryz.prog 89 6 7:=⟨by kernel_rfl⟩
end Go.Proofs.SL
namespace Go.Proofs.SL
open Go
variable {Γ:Cx} {l:Envl} {M M' M1 M2 F Mr:List HP} {Q:Post} {K:Kont} {w0 w:World} {S0 S:List Nat} {P:Program}
variable {rest:List Oper} {d:Nat} {ty:TypeId} {pos:String} {af:Array Edge}
structure Rw (τ:Type) where
 t:τ
section
variable {τ δ:Type} [GT τ δ]
instance:GT (Rw τ) τ where
 sz:=GT.sz τ
 pos:=GT.pos (τ:=τ)
 cells x:=GT.cells x.t
 len x:=GT.len x.t
 one x v hv:=GT.one x.t v hv
 rd _ _ _:=True
 fp _:=[]
 ow _ _:=True
 dat x:=x.t
 rd_mono h _:=h
 ow_st _ h:=h
 ow_rd h _:=h
instance:FlatT (Rw τ):=⟨fun _=>⟨rfl,fun _=>trivial⟩⟩
end
end Go.Proofs.SL
namespace Go.Proofs.SL
open Go
end Go.Proofs.SL
namespace Go.Proofs.SL
open Go
set_option maxHeartbeats 2000000
end Go.Proofs.SL
namespace Go.Proofs.SL
open Go
set_option maxHeartbeats 2000000
end Go.Proofs.SL
namespace Go.Proofs.SL
open Go
set_option maxHeartbeats 2000000
instance:Inhabited T_Inst:=⟨((0,0),0,0,0,(0,0,0,ByteArray.empty,ByteArray.empty,ByteArray.empty,0,TL.nil ByteArray 0),0,TL.nil T_Id 0,false)⟩
theorem sl_SortFunc_implInstimplInst_walk (w:World) (a0:TL T_Inst) (f1:Nat) (cs1:List Value) (a1:D_Inst→D_Inst→Option Int) (hf1:IsFn Tryz.prog f1) (hk1:∀ (w':World) (F:List HP) (u0 u1:T_Inst) (v:Int),Holds w (fps [treeH a0]) F w'→a1 (GT.dat u0) (GT.dat u1)=some v→Spec Tryz.prog f1 ([Value.agg (GT.cells u0).toArray,Value.agg (GT.cells u1).toArray]++cs1).toArray w' [] (IsV (.int .i64 v))) (r:List D_Inst) (hp:sortFn (GT.dat a0) a1=some r):Spec Tryz.prog 177 ([(TL.hdr a0),.func (.func f1) #[] cs1.toArray]:List Value).toArray w [treeH a0] (fun v M=>∃ (y0:TL T_Inst),v=.tuple #[]∧GT.dat y0=r∧M=[treeH y0]∧y0.hdr=a0.hdr) :=
 Spec.sortN w a0 cs1 a1 r hp (fun w' F x y v hF hv=>hk1 w' F x y v hF hv)
  (fun b off cap d hO hc hH hb hsz=>Go.Proofs.AnyQ.slices_SortFunc_eq Tryz.laysSF177 16 Tryz.isAgg45 Tryz.sizeOf45 (fun x:T_Inst=>GT.cells x) (fun x=>GT.len x) (fun x v hv=>GT.one x v hv) (fun x y:T_Inst=>(a1 (GT.dat x) (GT.dat y)).getD 0) hO f1 cs1.toArray b off cap d w hf1.run hc hH hb hsz)
  (fun p cap=>Go.Proofs.AnyF.slices_SortFunc_none Tryz.laysSF177 p cap _ w)
end Go.Proofs.SL
