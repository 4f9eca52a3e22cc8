/- The texts of the proof, part 10: the base, walks of functions, plain Lean. -/
import Derived.Test.YtkfgjljahhgooaaGreatT8
import Derived.Test.YtkfgjljahhgooaaGreatT9
import Derived.Test.YtkfgjljahhgooaaGreatT5
namespace Go.Proofs.SL
open Go
set_option maxHeartbeats 2000000
abbrev D_EMsg:=Int×Int×Int×D_Id×Int×D_Cmd×Int×(List D_Id)×Int×Int×Bool
instance fld35_0:FldF Tryz.prog 35 0 0:=⟨by kernel_rfl⟩
instance fld35_1:FldF Tryz.prog 35 1 1:=⟨by kernel_rfl⟩
instance fld35_2:FldF Tryz.prog 35 2 2:=⟨by kernel_rfl⟩
instance fld35_3:FldF Tryz.prog 35 3 3:=⟨by kernel_rfl⟩
instance fld35_4:FldF Tryz.prog 35 4 5:=⟨by kernel_rfl⟩
instance fld35_5:FldF Tryz.prog 35 5 6:=⟨by kernel_rfl⟩
instance fld35_6:FldF Tryz.prog 35 6 14:=⟨by kernel_rfl⟩
instance fld35_7:FldF Tryz.prog 35 7 15:=⟨by kernel_rfl⟩
instance fld35_8:FldF Tryz.prog 35 8 16:=⟨by kernel_rfl⟩
instance fld35_9:FldF Tryz.prog 35 9 17:=⟨by kernel_rfl⟩
instance zero27:ZerF Tryz.prog 27 [.int .i64 0,.int .i64 0,.slice none 0 0,.slice none 0 0]:=⟨by kernel_rfl⟩
instance fn117:FnF Tryz.prog 117:=⟨_,Tryz.func117,by kernel_rfl,rfl⟩
instance bld27:BldF Tryz.prog 27 [(0,1),(1,1),(2,1),(3,1)] [.int .i64 0,.int .i64 0,.slice none 0 0,.slice none 0 0]:=⟨by kernel_rfl⟩
instance el38:ElF Tryz.prog 38 35 19 208 [.int .i64 0,.int .i64 0,.int .i64 0,.int .i64 0,.int .i64 0,.int .i64 0,.int .i64 0,.int .i64 0,.int .i64 0,.string ByteArray.empty,.string ByteArray.empty,.string ByteArray.empty,.int .i64 0,.slice none 0 0,.int .i64 0,.slice none 0 0,.int .i64 0,.int .i64 0,.bool false]:=⟨by kernel_rfl⟩
instance agg35:AggF Tryz.prog 35 19:=⟨by kernel_rfl⟩
instance zero35:ZerF Tryz.prog 35 [.int .i64 0,.int .i64 0,.int .i64 0,.int .i64 0,.int .i64 0,.int .i64 0,.int .i64 0,.int .i64 0,.int .i64 0,.string ByteArray.empty,.string ByteArray.empty,.string ByteArray.empty,.int .i64 0,.slice none 0 0,.int .i64 0,.slice none 0 0,.int .i64 0,.int .i64 0,.bool false]:=⟨by kernel_rfl⟩
instance bld35:BldF Tryz.prog 35 [(0,1),(1,1),(2,1),(3,2),(5,1),(6,8),(14,1),(15,1),(16,1),(17,1),(18,1)] [.int .i64 0,.int .i64 0,.int .i64 0,.int .i64 0,.int .i64 0,.int .i64 0,.int .i64 0,.int .i64 0,.int .i64 0,.string ByteArray.empty,.string ByteArray.empty,.string ByteArray.empty,.int .i64 0,.slice none 0 0,.int .i64 0,.slice none 0 0,.int .i64 0,.int .i64 0,.bool false]:=⟨by kernel_rfl⟩
instance fn68:FnF Tryz.prog 68:=⟨_,Tryz.func68,by kernel_rfl,rfl⟩
instance fn14:FnF Tryz.prog 14:=⟨_,Tryz.func14,by kernel_rfl,rfl⟩
instance fn153:FnF Tryz.prog 153:=⟨_,Tryz.func153,by kernel_rfl,rfl⟩
instance fn66:FnF Tryz.prog 66:=⟨_,Tryz.func66,by kernel_rfl,rfl⟩
instance fn67:FnF Tryz.prog 67:=⟨_,Tryz.func67,by kernel_rfl,rfl⟩
instance fn88:FnF Tryz.prog 88:=⟨_,Tryz.func88,by kernel_rfl,rfl⟩
instance fn13:FnF Tryz.prog 13:=⟨_,Tryz.func13,by kernel_rfl,rfl⟩
instance fn46:FnF Tryz.prog 46:=⟨_,Tryz.func46,by kernel_rfl,rfl⟩
instance fn94:FnF Tryz.prog 94:=⟨_,Tryz.func94,by kernel_rfl,rfl⟩
noncomputable def s_l8CopyAll (a0:List D_Inst):Option (List D_Inst) :=
 Option.bind (some ([]:List D_Inst)) (fun y2=>whileP (fun s3:(List D_Inst)×Int=>cond (decide (s3.2 < (a0.length:Int))) (Option.bind (idx a0 s3.2) (fun y5=>Option.bind (s_l8Copy ((y5.1.1,y5.1.2),y5.2.1,y5.2.2.1,y5.2.2.2.1,(y5.2.2.2.2.1.1,y5.2.2.2.2.1.2.1,y5.2.2.2.2.1.2.2.1,y5.2.2.2.2.1.2.2.2.1,y5.2.2.2.2.1.2.2.2.2.1,y5.2.2.2.2.1.2.2.2.2.2.1,y5.2.2.2.2.1.2.2.2.2.2.2.1,y5.2.2.2.2.1.2.2.2.2.2.2.2),y5.2.2.2.2.2.1,y5.2.2.2.2.2.2.1,y5.2.2.2.2.2.2.2)) (fun y6=>Option.bind (appP s3.1 [((y6.1.1,y6.1.2),y6.2.1,y6.2.2.1,y6.2.2.2.1,(y6.2.2.2.2.1.1,y6.2.2.2.2.1.2.1,y6.2.2.2.2.1.2.2.1,y6.2.2.2.2.1.2.2.2.1,y6.2.2.2.2.1.2.2.2.2.1,y6.2.2.2.2.1.2.2.2.2.2.1,y6.2.2.2.2.1.2.2.2.2.2.2.1,y6.2.2.2.2.1.2.2.2.2.2.2.2),y6.2.2.2.2.2.1,y6.2.2.2.2.2.2.1,y6.2.2.2.2.2.2.2)]) (fun y8=>some (.inl ((y8,IntKind.wrap .i64 (s3.2+1)))))))) (Option.map .inr (some s3.1))) (y2,0))
theorem s_l8CopyAll_walk (w:World) (a0:TL T_Inst) (h0:GT.rd w [] a0) (r:(List D_Inst)) (hp:s_l8CopyAll (GT.dat a0)=some r):Spec Tryz.prog 117 [(TL.hdr a0)].toArray w [] (fun v M=>∃ (x0:TL T_Inst),v=(TL.hdr x0)∧GT.dat x0=r∧M=[treeH x0]):=by
 refine Spec.intro Tryz.func117 rfl Tryz.ntmps117 rfl ?_
 unfold s_l8CopyAll at hp
 replace hp:=dd hp
 refine s2 ?_
 refine L_assign (v:=(TL.hdr (TL.nil T_Inst 0))) rfl rfl ?_
 refine s3 ?_
 replace hp:=ba hp;obtain ⟨y2,hy2,hp⟩:=hp
 refine L_mk0R T_Inst rfl el24.h (fun X1 hdX1 hzX1=>?_)
 obtain rfl:GT.dat X1=y2:=hdX1.trans (Option.some.inj hy2)
 clear hy2 hdX1
 refine s8 ?_
 refine W_while (σ:=(TL T_Inst)×Int) GT.dat (fun ((v3_0,v3_1):(TL T_Inst)×Int)=>[(3,(TL.hdr v3_0)),(4,.int .i64 v3_1)]) (fun ((v3_0,v3_1):(TL T_Inst)×Int)=>[treeH v3_0]) [(0,_)] [] (X1,0) hp sb ms ?_
 clear hp
 rintro ⟨v3_0,v3_1⟩ x3 hp hx3
 replace hp:=dd hp
 refine kq [0,3,4] ?_
 refine s8 ?_
 refine kp [0,3,4,9] ?_
 refine W_cond rfl (fun q4=>?_) (fun q4=>?_)
 ·replace hp:=cond_t q4 hp
  refine s7 ?_
  replace hp:=idx_bind hp;obtain ⟨⟨⟨u5_1,u5_2⟩,u5_3,u5_4,u5_5,⟨u5_6,u5_7,u5_8,u5_9,u5_10,u5_11,u5_12,u5_13⟩,u5_14,u5_15,u5_16⟩,hy5,hp⟩:=hp
  refine L_idxA (X:=a0) rfl rfl rfl el24.h (RdT.old h0) hy5 ?_
  refine L_loadW rfl rfl (RdT.at (RdT.old h0) (hy5).2) (by exact agg45.h) ?_
  replace hp:=ba hp;obtain ⟨y6,hy6,hp⟩:=hp
  refine L_callR rfl fn55.h rfl (by exact fun w hw=>s_l8Copy_walk w ((u5_1,u5_2),u5_3,u5_4,u5_5,(u5_6,u5_7,u5_8,u5_9,u5_10,u5_11,u5_12,u5_13),u5_14,u5_15,u5_16) (RdT.now (RdT.pair (RdT.pair RdT.int RdT.int) (RdT.pair RdT.int (RdT.pair RdT.int (RdT.pair RdT.int (RdT.pair (RdT.pair RdT.int (RdT.pair RdT.int (RdT.pair RdT.int (RdT.pair RdT.str (RdT.pair RdT.str (RdT.pair RdT.str (RdT.pair RdT.int (RdT.snd (RdT.snd (RdT.snd (RdT.snd (RdT.snd (RdT.snd (RdT.snd (RdT.fst (RdT.snd (RdT.snd (RdT.snd (RdT.snd (RdT.of (RdT.old h0) (hy5).2)))))))))))))))))))) (RdT.pair RdT.int (RdT.pair (RdT.fst (RdT.snd (RdT.snd (RdT.snd (RdT.snd (RdT.snd (RdT.snd (RdT.of (RdT.old h0) (hy5).2)))))))) RdT.bool))))))) hw) _ hy6) ?_
  rintro _ _ ⟨⟨⟨y6x0_1,y6x0_2⟩,y6x0_3,y6x0_4,y6x0_5,⟨y6x0_6,y6x0_7,y6x0_8,y6x0_9,y6x0_10,y6x0_11,y6x0_12,y6x0_13⟩,y6x0_14,y6x0_15,y6x0_16⟩,rfl,rfl,rfl⟩
  refine sc ?_
  replace hp:=dd hp
  refine xL (((y6x0_1,y6x0_2),y6x0_3,y6x0_4,y6x0_5,(y6x0_6,y6x0_7,y6x0_8,y6x0_9,y6x0_10,y6x0_11,y6x0_12,y6x0_13),y6x0_14,y6x0_15,y6x0_16):T_Inst) ?_
  refine L_buildSlice1 rfl rfl el24.h rfl (by decide) (by decide) rfl (fun bb18=>?_)
  replace hp:=ba hp;obtain ⟨y8,hy8,hp⟩:=hp
  refine jL (((y6x0_1,y6x0_2),y6x0_3,y6x0_4,y6x0_5,(y6x0_6,y6x0_7,y6x0_8,y6x0_9,y6x0_10,y6x0_11,y6x0_12,y6x0_13),y6x0_14,y6x0_15,y6x0_16):T_Inst) ?_
  refine L_app1m (X:=v3_0) (((y6x0_1,y6x0_2),y6x0_3,y6x0_4,y6x0_5,(y6x0_6,y6x0_7,y6x0_8,y6x0_9,y6x0_10,y6x0_11,y6x0_12,y6x0_13),y6x0_14,y6x0_15,y6x0_16):T_Inst) rfl rfl rfl el24.h rfl rfl pk mm pk hy8 (by decide) (fun X7 hdX7 hmX7=>?_)
  subst hdX7
  refine s7 ?_
  exact ⟨(X7,IntKind.wrap .i64 (v3_1+1)),sb,(.sub ms),some_eq hp⟩
 ·replace hp:=cond_f q4 hp
  refine W_exit ?_
  replace hp:=map_any hp;obtain ⟨a9,hp,z_9⟩:=hp
  obtain rfl:=hx3 _ z_9
  refine s5 ?_
  obtain rfl:=sj hp
  refine s1 ?_
  refine res1 rfl (ResOK.tmp rfl) ⟨v3_0,rfl,rfl,rfl⟩ ms
noncomputable def s_l8Put (a0:List D_Inst) (a1:D_Inst):Option (List D_Inst) :=
 Option.bind (some ([]:List D_Inst)) (fun y2=>whileP (fun s3:(List D_Inst)×Bool×Int=>cond (decide (s3.2.2 < (a0.length:Int))) (gb (!s3.2.1) (idx a0 s3.2.2) (fun y5=>gb (!s3.2.1) (s_l8Less (y5.1.1,y5.1.2) (a1.1.1,a1.1.2)) (fun y6=>cond ((!s3.2.1)&&(!y6)) (Option.bind (appP s3.1 [((a1.1.1,a1.1.2),a1.2.1,a1.2.2.1,a1.2.2.2.1,(a1.2.2.2.2.1.1,a1.2.2.2.2.1.2.1,a1.2.2.2.2.1.2.2.1,a1.2.2.2.2.1.2.2.2.1,a1.2.2.2.2.1.2.2.2.2.1,a1.2.2.2.2.1.2.2.2.2.2.1,a1.2.2.2.2.1.2.2.2.2.2.2.1,a1.2.2.2.2.1.2.2.2.2.2.2.2),a1.2.2.2.2.2.1,a1.2.2.2.2.2.2.1,a1.2.2.2.2.2.2.2)]) (fun y9=>Option.bind (idx a0 s3.2.2) (fun y10=>cond (!(decide (y10.1.1=a1.1.1)&&(decide (y10.1.2=a1.1.2)&&true))) (Option.bind (idx a0 s3.2.2) (fun y12=>Option.bind (appP y9 [((y12.1.1,y12.1.2),y12.2.1,y12.2.2.1,y12.2.2.2.1,(y12.2.2.2.2.1.1,y12.2.2.2.2.1.2.1,y12.2.2.2.2.1.2.2.1,y12.2.2.2.2.1.2.2.2.1,y12.2.2.2.2.1.2.2.2.2.1,y12.2.2.2.2.1.2.2.2.2.2.1,y12.2.2.2.2.1.2.2.2.2.2.2.1,y12.2.2.2.2.1.2.2.2.2.2.2.2),y12.2.2.2.2.2.1,y12.2.2.2.2.2.2.1,y12.2.2.2.2.2.2.2)]) (fun y14=>some (.inl ((y14,true,IntKind.wrap .i64 (s3.2.2+1))))))) (some (.inl ((y9,true,IntKind.wrap .i64 (s3.2.2+1)))))))) (Option.bind (idx a0 s3.2.2) (fun y15=>cond (!(decide (y15.1.1=a1.1.1)&&(decide (y15.1.2=a1.1.2)&&true))) (Option.bind (idx a0 s3.2.2) (fun y17=>Option.bind (appP s3.1 [((y17.1.1,y17.1.2),y17.2.1,y17.2.2.1,y17.2.2.2.1,(y17.2.2.2.2.1.1,y17.2.2.2.2.1.2.1,y17.2.2.2.2.1.2.2.1,y17.2.2.2.2.1.2.2.2.1,y17.2.2.2.2.1.2.2.2.2.1,y17.2.2.2.2.1.2.2.2.2.2.1,y17.2.2.2.2.1.2.2.2.2.2.2.1,y17.2.2.2.2.1.2.2.2.2.2.2.2),y17.2.2.2.2.2.1,y17.2.2.2.2.2.2.1,y17.2.2.2.2.2.2.2)]) (fun y19=>some (.inl ((y19,s3.2.1,IntKind.wrap .i64 (s3.2.2+1))))))) (some (.inl ((s3.1,s3.2.1,IntKind.wrap .i64 (s3.2.2+1)))))))))) (Option.map .inr (cond (!s3.2.1) (Option.bind (appP s3.1 [((a1.1.1,a1.1.2),a1.2.1,a1.2.2.1,a1.2.2.2.1,(a1.2.2.2.2.1.1,a1.2.2.2.2.1.2.1,a1.2.2.2.2.1.2.2.1,a1.2.2.2.2.1.2.2.2.1,a1.2.2.2.2.1.2.2.2.2.1,a1.2.2.2.2.1.2.2.2.2.2.1,a1.2.2.2.2.1.2.2.2.2.2.2.1,a1.2.2.2.2.1.2.2.2.2.2.2.2),a1.2.2.2.2.2.1,a1.2.2.2.2.2.2.1,a1.2.2.2.2.2.2.2)]) (fun y23=>some y23)) (some s3.1)))) (y2,false,0))
theorem s_l8Put_walk (w:World) (a0:TL T_Inst) (a1:T_Inst) (h0:GT.rd w [] a0) (h1:GT.rd w [] a1) (r:(List D_Inst)) (hp:s_l8Put (GT.dat a0) (GT.dat a1)=some r):Spec Tryz.prog 66 [(TL.hdr a0),.agg (GT.cells a1).toArray].toArray w [] (fun v M=>∃ (x0:TL T_Inst) (B:BL),v=(TL.hdr x0)∧GT.dat x0=r∧M=[frz B.l (a0,a1) x0]):=by
 obtain ⟨⟨a1_1,a1_2⟩,a1_3,a1_4,a1_5,⟨a1_6,a1_7,a1_8,a1_9,a1_10,a1_11,a1_12,a1_13⟩,a1_14,a1_15,a1_16⟩:=a1
 change Spec _ _ ([(TL.hdr a0),Value.agg #[.int .i64 a1_1,.int .i64 a1_2,.int .i64 a1_3,.int .i64 a1_4,.int .i64 a1_5,.int .i64 a1_6,.int .i64 a1_7,.int .i64 a1_8,.string a1_9,.string a1_10,.string a1_11,.int .i64 a1_12,(TL.hdr a1_13),.int .i64 a1_14,(TL.hdr a1_15),.bool a1_16]]:List Value).toArray w [] _
 refine Spec.intro Tryz.func66 rfl Tryz.ntmps66 rfl ?_
 unfold s_l8Put at hp
 replace hp:=dd hp
 refine s2 ?_
 refine bx fun bk3=>?_
 refine L_assign (v:=(TL.hdr (TL.nil T_Inst 0))) rfl rfl ?_
 refine s3 ?_
 replace hp:=ba hp;obtain ⟨y2,hy2,hp⟩:=hp
 refine L_mk0R T_Inst rfl el24.h (fun X1 hdX1 hzX1=>?_)
 obtain rfl:GT.dat X1=y2:=hdX1.trans (Option.some.inj hy2)
 clear hy2 hdX1
 refine s12 ?_
 refine W_conv (M':=rowH X1::elsT X1.els::_) (fun w h=>row_open pk h) ?_
 refine W_conv (M':=subH X1.els (a0.els++[((a1_1,a1_2),a1_3,a1_4,a1_5,(a1_6,a1_7,a1_8,a1_9,a1_10,a1_11,a1_12,a1_13),a1_14,a1_15,a1_16)])::_) (fun w h=>sub_add (fun x hx=>by rw [hzX1] at hx;cases hx) h) ?_
 refine W_while (σ:=(TL T_Inst)×Bool×Int) GT.dat (fun ((v3_0,v3_1,v3_2):(TL T_Inst)×Bool×Int)=>[(5,(TL.hdr v3_0)),(6,.bool v3_1),(7,.int .i64 v3_2)]) (fun ((v3_0,v3_1,v3_2):(TL T_Inst)×Bool×Int)=>[rowH v3_0,subH v3_0.els (a0.els++[((a1_1,a1_2),a1_3,a1_4,a1_5,(a1_6,a1_7,a1_8,a1_9,a1_10,a1_11,a1_12,a1_13),a1_14,a1_15,a1_16)])]) [(0,_),(3,_)] [blk bk3 _ _] (X1,false,0) hp sb ms ?_
 clear hp
 rintro ⟨v3_0,v3_1,v3_2⟩ x3 hp hx3
 replace hp:=dd hp
 refine kq [0,3,5,6,7] ?_
 refine s8 ?_
 refine kp [0,3,5,6,7,12] ?_
 refine W_cond rfl (fun q4=>?_) (fun q4=>?_)
 ·replace hp:=cond_t q4 hp
  refine s5 ?_
  replace hp:=idx_gb hp;obtain ⟨⟨⟨u5_1,u5_2⟩,u5_3,u5_4,u5_5,⟨u5_6,u5_7,u5_8,u5_9,u5_10,u5_11,u5_12,u5_13⟩,u5_14,u5_15,u5_16⟩,hy5,hp⟩:=hp
  replace hp:=gb_any hp;obtain ⟨y6,hy6,hp⟩:=hp
  refine W_D0 [27] mix (by kernel_rfl) rfl ?_
  refine s5 ?_
  refine D_idxA (X:=a0) (GC.some rfl rfl) (OpV.s rfl) (OpV.s rfl) el24.h (RdT.old h0) (fun hg=>hy5 hg.2) ?_
  refine s1 ?_
  refine D_loadW (GC.some rfl rfl) (OpV.s rfl) (fun hg=>RdC.seg (RdT.at (RdT.old h0) (hy5 hg.2).2) 0 2 rfl) (by exact agg29.h) ?_
  refine s1 ?_
  refine D_loadW (GC.some rfl rfl) (OpV.s rfl) (fun hg=>RdC.seg (RdC.blk mm) 0 2 rfl) (by exact agg29.h) ?_
  refine D_callX (GC.some rfl rfl) fn129.h (OpVs.cons (OpV.s rfl) (OpVs.cons (OpV.s rfl) (OpVs.nil))) (by exact fun hg w F hF hM=>s_l8Less_walk w (u5_1,u5_2) (a1_1,a1_2) (RdT.nowS (RdT.pair RdT.int RdT.int) hF hM) (RdT.nowS (RdT.pair RdT.int RdT.int) hF hM) _ (hy6 hg.2)) ?_
  refine s17 ?_
  refine kp [0,3,5,6,7,27] ?_
  refine W_cond rfl (fun q7=>?_) (fun q7=>?_)
  ·replace hp:=cond_t q7 hp
   refine s4 ?_
   refine L_buildSlice1 rfl rfl el24.h rfl (by decide) (by decide) rfl (fun bb30=>?_)
   replace hp:=ba hp;obtain ⟨y9,hy9,hp⟩:=hp
   refine L_app1S (X:=v3_0) (An:=(a0.els++[((a1_1,a1_2),a1_3,a1_4,a1_5,(a1_6,a1_7,a1_8,a1_9,a1_10,a1_11,a1_12,a1_13),a1_14,a1_15,a1_16)])) (((a1_1,a1_2),a1_3,a1_4,a1_5,(a1_6,a1_7,a1_8,a1_9,a1_10,a1_11,a1_12,a1_13),a1_14,a1_15,a1_16):T_Inst) rfl rfl rfl el24.h rfl rfl pk pk mm hy9 (by decide) (List.mem_append_right _ (List.mem_singleton.2 rfl)) (fun X8 hdX8=>?_)
   subst hdX8
   refine s6 ?_
   replace hp:=idx_bind hp;obtain ⟨⟨⟨u10_1,u10_2⟩,u10_3,u10_4,u10_5,⟨u10_6,u10_7,u10_8,u10_9,u10_10,u10_11,u10_12,u10_13⟩,u10_14,u10_15,u10_16⟩,hy10,hp⟩:=hp
   refine W_D0 [39] mix (by kernel_rfl) rfl ?_
   refine s2 ?_
   refine D_idxA (X:=a0) GC.none (OpV.t rfl) (OpV.t rfl) el24.h (RdT.old h0) (fun _=>hy10) ?_
   refine s1 ?_
   refine D_loadW GC.none (OpV.t rfl) (fun hg=>RdC.seg (RdT.at (RdT.old h0) (hy10).2) 0 2 rfl) (by exact agg29.h) ?_
   refine s1 ?_
   refine D_loadW GC.none (OpV.t rfl) (fun hg=>RdC.seg (RdC.blk mm) 0 2 rfl) (by exact agg29.h) ?_
   refine D_bin GC.none (OpV.t rfl) (OpV.t rfl) (fun hg=>(bv_aneq eqsh29 (EqS.consI one3.h und3.h rfl rfl (EqS.consI one3.h und3.h rfl rfl EqS.nil)))) ?_
   refine s10 ?_
   refine kp [0,3,5,6,7,39] ?_
   refine W_cond rfl (fun q11=>?_) (fun q11=>?_)
   ·replace hp:=cond_t q11 hp
    refine s4 ?_
    replace hp:=idx_bind hp;obtain ⟨u12,hy12,hp⟩:=hp
    obtain rfl:((u10_1,u10_2),u10_3,u10_4,u10_5,(u10_6,u10_7,u10_8,u10_9,u10_10,u10_11,u10_12,u10_13),u10_14,u10_15,u10_16)=u12:=Option.some.inj (hy10.2.symm.trans hy12.2)
    refine L_idxA (X:=a0) rfl rfl rfl el24.h (RdT.old h0) hy10 ?_
    refine L_loadW rfl rfl (RdT.at (RdT.old h0) (hy10).2) (by exact agg45.h) ?_
    refine L_buildSlice1 rfl rfl el24.h rfl (by decide) (by decide) rfl (fun bb45=>?_)
    replace hp:=ba hp;obtain ⟨y14,hy14,hp⟩:=hp
    refine L_app1S (X:=X8) (An:=(a0.els++[((a1_1,a1_2),a1_3,a1_4,a1_5,(a1_6,a1_7,a1_8,a1_9,a1_10,a1_11,a1_12,a1_13),a1_14,a1_15,a1_16)])) (((u10_1,u10_2),u10_3,u10_4,u10_5,(u10_6,u10_7,u10_8,u10_9,u10_10,u10_11,u10_12,u10_13),u10_14,u10_15,u10_16):T_Inst) rfl rfl rfl el24.h rfl rfl pk pk mm hy14 (by decide) (List.mem_append_left _ (List.mem_of_getElem? hy10.2)) (fun X13 hdX13=>?_)
    subst hdX13
    refine s7 ?_
    exact ⟨(X13,true,IntKind.wrap .i64 (v3_2+1)),sb,(.sub ms),some_eq hp⟩
   ·replace hp:=cond_f q11 hp
    refine s6 ?_
    exact ⟨(X8,true,IntKind.wrap .i64 (v3_2+1)),sb,(.sub ms),some_eq hp⟩
  ·replace hp:=cond_f q7 hp
   refine s2 ?_
   replace hp:=idx_bind hp;obtain ⟨⟨⟨u15_1,u15_2⟩,u15_3,u15_4,u15_5,⟨u15_6,u15_7,u15_8,u15_9,u15_10,u15_11,u15_12,u15_13⟩,u15_14,u15_15,u15_16⟩,hy15,hp⟩:=hp
   refine W_D0 [39] mix (by kernel_rfl) rfl ?_
   refine s2 ?_
   refine D_idxA (X:=a0) GC.none (OpV.t rfl) (OpV.t rfl) el24.h (RdT.old h0) (fun _=>hy15) ?_
   refine s1 ?_
   refine D_loadW GC.none (OpV.t rfl) (fun hg=>RdC.seg (RdT.at (RdT.old h0) (hy15).2) 0 2 rfl) (by exact agg29.h) ?_
   refine s1 ?_
   refine D_loadW GC.none (OpV.t rfl) (fun hg=>RdC.seg (RdC.blk mm) 0 2 rfl) (by exact agg29.h) ?_
   refine D_bin GC.none (OpV.t rfl) (OpV.t rfl) (fun hg=>(bv_aneq eqsh29 (EqS.consI one3.h und3.h rfl rfl (EqS.consI one3.h und3.h rfl rfl EqS.nil)))) ?_
   refine s10 ?_
   refine kp [0,3,5,6,7,39] ?_
   refine W_cond rfl (fun q16=>?_) (fun q16=>?_)
   ·replace hp:=cond_t q16 hp
    refine s4 ?_
    replace hp:=idx_bind hp;obtain ⟨u17,hy17,hp⟩:=hp
    obtain rfl:((u15_1,u15_2),u15_3,u15_4,u15_5,(u15_6,u15_7,u15_8,u15_9,u15_10,u15_11,u15_12,u15_13),u15_14,u15_15,u15_16)=u17:=Option.some.inj (hy15.2.symm.trans hy17.2)
    refine L_idxA (X:=a0) rfl rfl rfl el24.h (RdT.old h0) hy15 ?_
    refine L_loadW rfl rfl (RdT.at (RdT.old h0) (hy15).2) (by exact agg45.h) ?_
    refine L_buildSlice1 rfl rfl el24.h rfl (by decide) (by decide) rfl (fun bb45=>?_)
    replace hp:=ba hp;obtain ⟨y19,hy19,hp⟩:=hp
    refine L_app1S (X:=v3_0) (An:=(a0.els++[((a1_1,a1_2),a1_3,a1_4,a1_5,(a1_6,a1_7,a1_8,a1_9,a1_10,a1_11,a1_12,a1_13),a1_14,a1_15,a1_16)])) (((u15_1,u15_2),u15_3,u15_4,u15_5,(u15_6,u15_7,u15_8,u15_9,u15_10,u15_11,u15_12,u15_13),u15_14,u15_15,u15_16):T_Inst) rfl rfl rfl el24.h rfl rfl pk pk mm hy19 (by decide) (List.mem_append_left _ (List.mem_of_getElem? hy15.2)) (fun X18 hdX18=>?_)
    subst hdX18
    refine s7 ?_
    exact ⟨(X18,v3_1,IntKind.wrap .i64 (v3_2+1)),sb,(.sub ms),some_eq hp⟩
   ·replace hp:=cond_f q16 hp
    refine s6 ?_
    exact ⟨(v3_0,v3_1,IntKind.wrap .i64 (v3_2+1)),sb,(.sub ms),some_eq hp⟩
 ·replace hp:=cond_f q4 hp
  refine W_exit ?_
  replace hp:=map_any hp;obtain ⟨a20,hp,z_20⟩:=hp
  obtain rfl:=hx3 _ z_20
  refine s6 ?_
  refine kp [3,5,48] ?_
  refine W_cond rfl (fun q21=>?_) (fun q21=>?_)
  ·replace hp:=cond_t q21 hp
   refine s3 ?_
   refine L_buildSlice1 rfl rfl el24.h rfl (by decide) (by decide) rfl (fun bb51=>?_)
   replace hp:=ba hp;obtain ⟨y23,hy23,hp⟩:=hp
   refine L_app1S (X:=v3_0) (An:=(a0.els++[((a1_1,a1_2),a1_3,a1_4,a1_5,(a1_6,a1_7,a1_8,a1_9,a1_10,a1_11,a1_12,a1_13),a1_14,a1_15,a1_16)])) (((a1_1,a1_2),a1_3,a1_4,a1_5,(a1_6,a1_7,a1_8,a1_9,a1_10,a1_11,a1_12,a1_13),a1_14,a1_15,a1_16):T_Inst) rfl rfl rfl el24.h rfl rfl pk pk mm hy23 (by decide) (List.mem_append_right _ (List.mem_singleton.2 rfl)) (fun X22 hdX22=>?_)
   subst hdX22
   refine s7 ?_
   obtain rfl:=sj hp
   refine W_conv (M':=frz (fps [rowH X22,subH X22.els (a0.els++[((a1_1,a1_2),a1_3,a1_4,a1_5,(a1_6,a1_7,a1_8,a1_9,a1_10,a1_11,a1_12,a1_13),a1_14,a1_15,a1_16)])]) (a0,((a1_1,a1_2),a1_3,a1_4,a1_5,(a1_6,a1_7,a1_8,a1_9,a1_10,a1_11,a1_12,a1_13),a1_14,a1_15,a1_16)) X22::_) (fun w h=>pack [rowH X22,subH X22.els (a0.els++[((a1_1,a1_2),a1_3,a1_4,a1_5,(a1_6,a1_7,a1_8,a1_9,a1_10,a1_11,a1_12,a1_13),a1_14,a1_15,a1_16)])] pc (fun w' S ha=>by obtain ⟨h0,h1⟩:=ha;exact (RdP.rowE mm (RdP.subH mm (RdP.elApp (RdP.elTL (RdP.old h0)) (RdP.elOne (RdP.pair (RdP.pair RdP.int RdP.int) (RdP.pair RdP.int (RdP.pair RdP.int (RdP.pair RdP.int (RdP.pair (RdP.pair RdP.int (RdP.pair RdP.int (RdP.pair RdP.int (RdP.pair RdP.str (RdP.pair RdP.str (RdP.pair RdP.str (RdP.pair RdP.int (RdP.old h1.2.2.2.2.1.2.2.2.2.2.2.2)))))))) (RdP.pair RdP.int (RdP.pair (RdP.old h1.2.2.2.2.2.2.1) RdP.bool)))))))))))) h) ?_
   refine s1 ?_
   refine res1 rfl (ResOK.tmp rfl) ⟨X22,(⟨fps [rowH X22,subH X22.els (a0.els++[((a1_1,a1_2),a1_3,a1_4,a1_5,(a1_6,a1_7,a1_8,a1_9,a1_10,a1_11,a1_12,a1_13),a1_14,a1_15,a1_16)])]⟩:BL),rfl,rfl,rfl⟩ ms
  ·replace hp:=cond_f q21 hp
   refine s6 ?_
   obtain rfl:=sj hp
   refine W_conv (M':=frz (fps [rowH v3_0,subH v3_0.els (a0.els++[((a1_1,a1_2),a1_3,a1_4,a1_5,(a1_6,a1_7,a1_8,a1_9,a1_10,a1_11,a1_12,a1_13),a1_14,a1_15,a1_16)])]) (a0,((a1_1,a1_2),a1_3,a1_4,a1_5,(a1_6,a1_7,a1_8,a1_9,a1_10,a1_11,a1_12,a1_13),a1_14,a1_15,a1_16)) v3_0::_) (fun w h=>pack [rowH v3_0,subH v3_0.els (a0.els++[((a1_1,a1_2),a1_3,a1_4,a1_5,(a1_6,a1_7,a1_8,a1_9,a1_10,a1_11,a1_12,a1_13),a1_14,a1_15,a1_16)])] pc (fun w' S ha=>by obtain ⟨h0,h1⟩:=ha;exact (RdP.rowE mm (RdP.subH mm (RdP.elApp (RdP.elTL (RdP.old h0)) (RdP.elOne (RdP.pair (RdP.pair RdP.int RdP.int) (RdP.pair RdP.int (RdP.pair RdP.int (RdP.pair RdP.int (RdP.pair (RdP.pair RdP.int (RdP.pair RdP.int (RdP.pair RdP.int (RdP.pair RdP.str (RdP.pair RdP.str (RdP.pair RdP.str (RdP.pair RdP.int (RdP.old h1.2.2.2.2.1.2.2.2.2.2.2.2)))))))) (RdP.pair RdP.int (RdP.pair (RdP.old h1.2.2.2.2.2.2.1) RdP.bool)))))))))))) h) ?_
   refine s1 ?_
   refine res1 rfl (ResOK.tmp rfl) ⟨v3_0,(⟨fps [rowH v3_0,subH v3_0.els (a0.els++[((a1_1,a1_2),a1_3,a1_4,a1_5,(a1_6,a1_7,a1_8,a1_9,a1_10,a1_11,a1_12,a1_13),a1_14,a1_15,a1_16)])]⟩:BL),rfl,rfl,rfl⟩ ms
noncomputable def s_l9Copy (a0:D_ENode):Option D_ENode :=
 Option.bind (s_l8CopyAll a0.2.2.1) (fun y1=>whileP (fun s3:Int×(List D_Lead)=>cond (decide (s3.1 < (a0.2.2.2.length:Int))) (Option.bind (idx a0.2.2.2 s3.1) (fun y5=>Option.bind (some ([]:List D_Id)) (fun y7=>Option.bind (appP y7 y5.2.2.2.2.1) (fun y9=>Option.bind (some ([]:List Int)) (fun y11=>Option.bind (appP y11 y5.2.2.2.2.2.1) (fun y13=>Option.bind (appP s3.2 [((y5.1.1,y5.1.2),y5.2.1,y5.2.2.1,y5.2.2.2.1,y9,y13,y5.2.2.2.2.2.2)]) (fun y15=>some (.inl ((IntKind.wrap .i64 (s3.1+1),y15)))))))))) (Option.map .inr (some (a0.1,a0.2.1,y1,s3.2)))) (0,([]:List D_Lead)))
theorem s_l9Copy_walk (w:World) (a0:T_ENode) (h0:GT.rd w [] a0) (r:D_ENode) (hp:s_l9Copy (GT.dat a0)=some r):Spec Tryz.prog 46 [.agg (GT.cells a0).toArray].toArray w [] (fun v M=>∃ (x0:T_ENode),v=.agg (GT.cells x0).toArray∧GT.dat x0=r∧M=[treeH x0]):=by
 obtain ⟨a0_1,a0_2,a0_3,a0_4⟩:=a0
 change Spec _ _ ([Value.agg #[.int .i64 a0_1,.int .i64 a0_2,(TL.hdr a0_3),(TL.hdr a0_4)]]:List Value).toArray w [] _
 refine Spec.intro Tryz.func46 rfl Tryz.ntmps46 rfl ?_
 unfold s_l9Copy at hp
 replace hp:=dd hp
 refine s2 ?_
 refine bx fun bk1=>?_
 refine al fun bk2=>?_
 refine s2 ?_
 replace hp:=ba hp;obtain ⟨y1,hy1,hp⟩:=hp
 refine W_DS (pre:=[_,_,_,_,_,_,_,_,_]) (suf:=[_]) [3,13] [] _ pc mix (by kernel_rfl) (by kernel_rfl) rfl ?_
 refine s6 ?_
 refine D_call1R (fun v M=>∃ (x0:TL T_Inst),v=(TL.hdr x0)∧GT.dat x0=y1∧M=[treeH x0]) fn117.h (OpVs.cons (OpV.t rfl) (OpVs.nil)) (by exact fun w F hF hM=>s_l8CopyAll_walk w a0_3 (RdT.nowS (RdT.old h0.2.2.1) hF hM) _ hy1) ?_
 refine D_buildO (τ:=T_Inst) (t:=12) (xs:=[(0,.tmp 7),(1,.tmp 9),(2,.tmp 12)]) (ps:=fun u=>[(0,.int .i64 a0_1),(1,.int .i64 a0_2),(2,u)]) (cs:=fun u=>[.int .i64 a0_1,.int .i64 a0_2,u,(TL.hdr (TL.nil T_Lead 0))]) rfl (fun u=>(OpVp.cons (OpV.t rfl) (OpVp.cons (OpV.t rfl) (OpVp.cons (OpV.t rfl) (OpVp.nil))))) bld27.h (fun X=>rfl) (by kernel_rfl) ?_
 refine D_alloc zero27.h ?_
 refine s1 ?_
 refine Give_R rfl rfl ?_
 rintro _ _ ⟨bk3,rfl,rfl⟩
 simp only [List.cons_append,List.nil_append]
 refine Give_R rfl rfl ?_
 rintro _ _ ⟨X2,rfl,rfl,rfl⟩
 simp only [List.cons_append,List.nil_append]
 refine s16 ?_
 refine W_conv (M':=treeH (TL.nil T_Lead 0)::_) (fun w h=>addNilT (τ:=T_Lead) 0 h) ?_
 refine W_while (σ:=Int×(TL T_Lead)) GT.dat (fun ((v3_0,v3_1):Int×(TL T_Lead))=>[(4,.int .i64 v3_0)]) (fun ((v3_0,v3_1):Int×(TL T_Lead))=>[blk bk3 [.int .i64 a0_1,.int .i64 a0_2,(TL.hdr X2),(TL.hdr v3_1)] 27,treeH v3_1]) [(1,_),(2,_),(3,_)] [blk bk1 _ _,blk bk2 _ _,treeH X2] (0,(TL.nil T_Lead 0)) hp sb ms ?_
 clear hp
 rintro ⟨v3_0,v3_1⟩ x3 hp hx3
 replace hp:=dd hp
 refine kq [1,2,3,4] ?_
 refine s9 ?_
 refine kp [1,2,3,4,18] ?_
 refine W_cond rfl (fun q4=>?_) (fun q4=>?_)
 ·replace hp:=cond_t q4 hp
  refine s8 ?_
  replace hp:=idx_bind hp;obtain ⟨⟨⟨u5_1,u5_2⟩,u5_3,u5_4,u5_5,u5_6,u5_7,u5_8⟩,hy5,hp⟩:=hp
  refine L_idxA (X:=a0_4) rfl rfl rfl el25.h (RdT.old h0.2.2.2) hy5 ?_
  refine L_loadW rfl rfl (RdT.at (RdT.old h0.2.2.2) (hy5).2) (by exact agg89.h) ?_
  refine al fun bk5=>?_
  refine s4 ?_
  replace hp:=ba hp;obtain ⟨y7,hy7,hp⟩:=hp
  refine L_mk0 T_Id rfl el33.h (fun X6 hdX6=>?_)
  obtain rfl:GT.dat X6=y7:=hdX6.trans (Option.some.inj hy7)
  clear hy7 hdX6
  refine s2 ?_
  replace hp:=ba hp;obtain ⟨y9,hy9,hp⟩:=hp
  refine L_appT (X:=X6) (Y:=u5_6) rfl rfl rfl el33.h rfl rfl pk (RdT.fst (RdT.snd (RdT.snd (RdT.snd (RdT.snd (RdT.of (RdT.old h0.2.2.2) (hy5).2)))))) hy9 (by decide) (fun X8 hdX8=>?_)
  subst hdX8
  refine s5 ?_
  replace hp:=ba hp;obtain ⟨y11,hy11,hp⟩:=hp
  refine L_mk0 Int rfl el87.h (fun X10 hdX10=>?_)
  obtain rfl:GT.dat X10=y11:=hdX10.trans (Option.some.inj hy11)
  clear hy11 hdX10
  refine s2 ?_
  replace hp:=ba hp;obtain ⟨y13,hy13,hp⟩:=hp
  refine L_appT (X:=X10) (Y:=u5_7) rfl rfl rfl el87.h rfl rfl pk (RdT.fst (RdT.snd (RdT.snd (RdT.snd (RdT.snd (RdT.snd (RdT.of (RdT.old h0.2.2.2) (hy5).2))))))) hy13 (by decide) (fun X12 hdX12=>?_)
  subst hdX12
  refine s7 ?_
  refine L_buildSlice1 rfl rfl el25.h rfl (by decide) (by decide) rfl (fun bb39=>?_)
  replace hp:=ba hp;obtain ⟨y15,hy15,hp⟩:=hp
  refine jL (((u5_1,u5_2),u5_3,u5_4,u5_5,X8,X12,u5_8):T_Lead) ?_
  refine L_app1m (X:=v3_1) (((u5_1,u5_2),u5_3,u5_4,u5_5,X8,X12,u5_8):T_Lead) rfl rfl rfl el25.h rfl rfl pk mm pk hy15 (by decide) (fun X14 hdX14 hmX14=>?_)
  subst hdX14
  refine s8 ?_
  exact ⟨(IntKind.wrap .i64 (v3_0+1),X14),sb,(.sub ms),some_eq hp⟩
 ·replace hp:=cond_f q4 hp
  refine W_exit ?_
  replace hp:=map_any hp;obtain ⟨a16,hp,z_16⟩:=hp
  obtain rfl:=hx3 _ z_16
  refine s5 ?_
  obtain rfl:=sj hp
  refine jW ((a0_1,a0_2,X2,v3_1):T_ENode) ?_
  refine s1 ?_
  refine res1 rfl (ResOK.cell rfl mm (by exact agg27.h)) ⟨(a0_1,a0_2,X2,v3_1),rfl,rfl,rfl⟩ ms
noncomputable def s_l9Drop (a0:D_ENode) (a1:D_Id):Option D_ENode :=
 Option.bind (some ([]:List D_Lead)) (fun y2=>whileP (fun s3:(List D_Lead)×Int=>cond (decide (s3.2 < (a0.2.2.2.length:Int))) (Option.bind (idx a0.2.2.2 s3.2) (fun y5=>cond (!(decide (y5.1.1=a1.1)&&(decide (y5.1.2=a1.2)&&true))) (Option.bind (idx a0.2.2.2 s3.2) (fun y7=>Option.bind (appP s3.1 [((y7.1.1,y7.1.2),y7.2.1,y7.2.2.1,y7.2.2.2.1,y7.2.2.2.2.1,y7.2.2.2.2.2.1,y7.2.2.2.2.2.2)]) (fun y9=>some (.inl ((y9,IntKind.wrap .i64 (s3.2+1))))))) (some (.inl ((s3.1,IntKind.wrap .i64 (s3.2+1))))))) (Option.map .inr (some (a0.1,a0.2.1,a0.2.2.1,s3.1)))) (y2,0))
theorem s_l9Drop_walk (w:World) (a0:T_ENode) (a1:T_Id) (h0:GT.rd w [] a0) (h1:GT.rd w [] a1) (r:D_ENode) (hp:s_l9Drop (GT.dat a0) (GT.dat a1)=some r):Spec Tryz.prog 153 [.agg (GT.cells a0).toArray,.agg (GT.cells a1).toArray].toArray w [] (fun v M=>∃ (x0:T_ENode) (B:BL),v=.agg (GT.cells x0).toArray∧GT.dat x0=r∧M=[rowH x0.2.2.2,frz B.l a0 (x0.2.2.1,(EL.mk x0.2.2.2.els))]):=by
 obtain ⟨a0_1,a0_2,a0_3,a0_4⟩:=a0
 obtain ⟨a1_1,a1_2⟩:=a1
 change Spec _ _ ([Value.agg #[.int .i64 a0_1,.int .i64 a0_2,(TL.hdr a0_3),(TL.hdr a0_4)],Value.agg #[.int .i64 a1_1,.int .i64 a1_2]]:List Value).toArray w [] _
 refine Spec.intro Tryz.func153 rfl Tryz.ntmps153 rfl ?_
 unfold s_l9Drop at hp
 replace hp:=dd hp
 refine s2 ?_
 refine bx fun bk2=>?_
 refine bx fun bk3=>?_
 refine al fun bk4=>?_
 refine s3 ?_
 replace hp:=ba hp;obtain ⟨y2,hy2,hp⟩:=hp
 refine L_mk0R T_Lead rfl el25.h (fun X1 hdX1 hzX1=>?_)
 obtain rfl:GT.dat X1=y2:=hdX1.trans (Option.some.inj hy2)
 clear hy2 hdX1
 refine s8 ?_
 refine W_conv (M':=rowH X1::elsT X1.els::_) (fun w h=>row_open pk h) ?_
 refine W_conv (M':=subH X1.els a0_4.els::_) (fun w h=>sub_add (fun x hx=>by rw [hzX1] at hx;cases hx) h) ?_
 refine W_while (σ:=(TL T_Lead)×Int) GT.dat (fun ((v3_0,v3_1):(TL T_Lead)×Int)=>[(5,(TL.hdr v3_0)),(6,.int .i64 v3_1)]) (fun ((v3_0,v3_1):(TL T_Lead)×Int)=>[rowH v3_0,subH v3_0.els a0_4.els]) [(2,_),(3,_),(4,_)] [blk bk2 _ _,blk bk3 _ _,blk bk4 _ _] (X1,0) hp sb ms ?_
 clear hp
 rintro ⟨v3_0,v3_1⟩ x3 hp hx3
 replace hp:=dd hp
 refine kq [2,3,4,5,6] ?_
 refine s9 ?_
 refine kp [2,3,4,5,6,12] ?_
 refine W_cond rfl (fun q4=>?_) (fun q4=>?_)
 ·replace hp:=cond_t q4 hp
  refine s4 ?_
  replace hp:=idx_bind hp;obtain ⟨⟨⟨u5_1,u5_2⟩,u5_3,u5_4,u5_5,u5_6,u5_7,u5_8⟩,hy5,hp⟩:=hp
  refine W_D0 [22] mix (by kernel_rfl) rfl ?_
  refine s3 ?_
  refine D_idxA (X:=a0_4) GC.none (OpV.t rfl) (OpV.t rfl) el25.h (RdT.old h0.2.2.2) (fun _=>hy5) ?_
  refine s1 ?_
  refine D_loadW GC.none (OpV.t rfl) (fun hg=>RdC.seg (RdT.at (RdT.old h0.2.2.2) (hy5).2) 0 2 rfl) (by exact agg29.h) ?_
  refine s1 ?_
  refine D_bin GC.none (OpV.t rfl) (OpV.t rfl) (fun hg=>(bv_aneq eqsh29 (EqS.consI one3.h und3.h rfl rfl (EqS.consI one3.h und3.h rfl rfl EqS.nil)))) ?_
  refine s10 ?_
  refine kp [2,3,4,5,6,22] ?_
  refine W_cond rfl (fun q6=>?_) (fun q6=>?_)
  ·replace hp:=cond_t q6 hp
   refine s5 ?_
   replace hp:=idx_bind hp;obtain ⟨u7,hy7,hp⟩:=hp
   obtain rfl:((u5_1,u5_2),u5_3,u5_4,u5_5,u5_6,u5_7,u5_8)=u7:=Option.some.inj (hy5.2.symm.trans hy7.2)
   refine L_idxA (X:=a0_4) rfl rfl rfl el25.h (RdT.old h0.2.2.2) hy5 ?_
   refine L_loadW rfl rfl (RdT.at (RdT.old h0.2.2.2) (hy5).2) (by exact agg89.h) ?_
   refine L_buildSlice1 rfl rfl el25.h rfl (by decide) (by decide) rfl (fun bb29=>?_)
   replace hp:=ba hp;obtain ⟨y9,hy9,hp⟩:=hp
   refine L_app1S (X:=v3_0) (An:=a0_4.els) (((u5_1,u5_2),u5_3,u5_4,u5_5,u5_6,u5_7,u5_8):T_Lead) rfl rfl rfl el25.h rfl rfl pk pk mm hy9 (by decide) (List.mem_of_getElem? hy5.2) (fun X8 hdX8=>?_)
   subst hdX8
   refine s7 ?_
   exact ⟨(X8,IntKind.wrap .i64 (v3_1+1)),sb,(.sub ms),some_eq hp⟩
  ·replace hp:=cond_f q6 hp
   refine s6 ?_
   exact ⟨(v3_0,IntKind.wrap .i64 (v3_1+1)),sb,(.sub ms),some_eq hp⟩
 ·replace hp:=cond_f q4 hp
  refine W_exit ?_
  replace hp:=map_any hp;obtain ⟨a10,hp,z_10⟩:=hp
  obtain rfl:=hx3 _ z_10
  refine s11 ?_
  obtain rfl:=sj hp
  refine W_conv (M':=frz (fps [subH v3_0.els a0_4.els]) (a0_1,a0_2,a0_3,a0_4) (a0_3,(EL.mk v3_0.els))::_) (fun w h=>pack [subH v3_0.els a0_4.els] pc (fun w' S h0=>(RdP.pair (RdP.old h0.2.2.1) (RdP.subH mm (RdP.elTL (RdP.old h0.2.2.2))))) h) ?_
  refine s1 ?_
  refine res1 rfl (ResOK.cell rfl mm (by exact agg27.h)) ⟨(a0_1,a0_2,a0_3,v3_0),(⟨fps [subH v3_0.els a0_4.els]⟩:BL),rfl,rfl,rfl⟩ ms
noncomputable def s_l9Put (a0:D_ENode) (a1:D_Lead):Option D_ENode :=
 Option.bind (s_l9At (a0.1,a0.2.1,a0.2.2.1,a0.2.2.2) (a1.1.1,a1.1.2)) (fun y1=>cond (decide (y1 < 0)) (Option.bind (some ([]:List D_Lead)) (fun y4=>Option.bind (appP y4 a0.2.2.2) (fun y6=>Option.bind (appP y6 [((a1.1.1,a1.1.2),a1.2.1,a1.2.2.1,a1.2.2.2.1,a1.2.2.2.2.1,a1.2.2.2.2.2.1,a1.2.2.2.2.2.2)]) (fun y8=>some (a0.1,a0.2.1,a0.2.2.1,y8))))) (Option.bind (idx a0.2.2.2 y1) (fun y9=>Option.bind (some (a0.2.2.2.set (y1.toNat) ((a1.1.1,a1.1.2),a1.2.1,a1.2.2.1,a1.2.2.2.1,a1.2.2.2.2.1,a1.2.2.2.2.2.1,a1.2.2.2.2.2.2))) (fun y11=>some (a0.1,a0.2.1,a0.2.2.1,y11)))))
theorem s_l9Put_walk (w:World) (a0:T_ENode) (a1:T_Lead) (h1:GT.rd w (fps [rowH a0.2.2.2]) a1) (h0_2:GT.rd w (fps [rowH a0.2.2.2]) a0.2.2.1) (h0_3:GT.rd w (fps [rowH a0.2.2.2]) (EL.mk a0.2.2.2.els)) (r:D_ENode) (hp:s_l9Put (GT.dat a0) (GT.dat a1)=some r):Spec Tryz.prog 67 [.agg (GT.cells a0).toArray,.agg (GT.cells a1).toArray].toArray w [rowH a0.2.2.2] (fun v M=>∃ (x0:T_ENode) (B:BL),v=.agg (GT.cells x0).toArray∧GT.dat x0=r∧M=[rowH x0.2.2.2,frz B.l (a0.2.2.1,((EL.mk a0.2.2.2.els),a1)) (x0.2.2.1,(EL.mk x0.2.2.2.els))]):=by
 obtain ⟨a0_1,a0_2,a0_3,a0_4⟩:=a0
 obtain ⟨⟨a1_1,a1_2⟩,a1_3,a1_4,a1_5,a1_6,a1_7,a1_8⟩:=a1
 change Spec _ _ ([Value.agg #[.int .i64 a0_1,.int .i64 a0_2,(TL.hdr a0_3),(TL.hdr a0_4)],Value.agg #[.int .i64 a1_1,.int .i64 a1_2,.int .i64 a1_3,.int .i64 a1_4,.int .i64 a1_5,(TL.hdr a1_6),(TL.hdr a1_7),.bool a1_8]]:List Value).toArray w _ _
 refine Spec.intro Tryz.func67 rfl Tryz.ntmps67 rfl ?_
 unfold s_l9Put at hp
 replace hp:=dd hp
 refine s2 ?_
 refine bx fun bk2=>?_
 refine bx fun bk3=>?_
 refine al fun bk4=>?_
 refine s5 ?_
 refine L_loadW rfl rfl (RdC.seg (RdC.blk mm) 0 2 rfl) (by exact agg29.h) ?_
 replace hp:=ba hp;obtain ⟨y1,hy1,hp⟩:=hp
 refine L_callX rfl fn54.h rfl (by exact fun w hw=>s_l9At_walk w (a0_1,a0_2,a0_3,a0_4) (a1_1,a1_2) (RdT.now (RdT.pair RdT.int (RdT.pair RdT.int (RdT.pair (RdT.old h0_2) (RdT.rowE mm (RdT.old h0_3))))) hw) (RdT.now (RdT.pair RdT.int RdT.int) hw) _ hy1) ?_
 refine s8 ?_
 refine kp [2,3,4,5,12] ?_
 refine W_cond rfl (fun q2=>?_) (fun q2=>?_)
 ·replace hp:=cond_t q2 hp
  refine s2 ?_
  replace hp:=ba hp;obtain ⟨y4,hy4,hp⟩:=hp
  refine L_mk0R T_Lead rfl el25.h (fun X3 hdX3 hzX3=>?_)
  obtain rfl:GT.dat X3=y4:=hdX3.trans (Option.some.inj hy4)
  clear hy4 hdX3
  refine s2 ?_
  refine L_conv (M':=rowH X3::elsT X3.els::_) (fun w h=>row_open pk h) ?_
  replace hp:=ba hp;obtain ⟨y6,hy6,hp⟩:=hp
  refine L_appAllR (X:=X3) (Y:=a0_4) rfl rfl rfl el25.h rfl rfl pk (RdT.rowE mm (RdT.old h0_3)) hy6 (by decide) (fun X5 hdX5 heX5=>?_)
  subst hdX5
  refine s6 ?_
  refine L_buildSlice1 rfl rfl el25.h rfl (by decide) (by decide) rfl (fun bb19=>?_)
  replace hp:=ba hp;obtain ⟨y8,hy8,hp⟩:=hp
  refine L_app1R (X:=X5) (((a1_1,a1_2),a1_3,a1_4,a1_5,a1_6,a1_7,a1_8):T_Lead) rfl rfl rfl el25.h rfl rfl pk mm hy8 (by decide) (fun X7 hdX7 heX7=>?_)
  subst hdX7
  refine s8 ?_
  obtain rfl:=sj hp
  refine W_conv (M':=frz (fps [elsT X3.els,rowH a0_4]) (a0_3,((EL.mk a0_4.els),((a1_1,a1_2),a1_3,a1_4,a1_5,a1_6,a1_7,a1_8))) (a0_3,(EL.mk X7.els))::_) (fun w h=>pack [elsT X3.els,rowH a0_4] pc (fun w' S ha=>by obtain ⟨h0_2,h0_3,h1⟩:=ha;exact (RdP.pair (RdP.old h0_2) (RdP.elSub (fun _ hx=>heX7 ▸ hx) (RdP.elApp (RdP.elSub (fun _ hx=>heX5 ▸ hx) (RdP.elApp (RdP.els mm) (RdP.elTL (RdP.rowE mm (RdP.old h0_3))))) (RdP.elOne (RdP.pair (RdP.pair RdP.int RdP.int) (RdP.pair RdP.int (RdP.pair RdP.int (RdP.pair RdP.int (RdP.pair (RdP.old h1.2.2.2.2.1) (RdP.pair (RdP.old h1.2.2.2.2.2.1) RdP.bool))))))))))) h) ?_
  refine s1 ?_
  refine res1 rfl (ResOK.cell rfl mm (by exact agg27.h)) ⟨(a0_1,a0_2,a0_3,X7),(⟨fps [elsT X3.els,rowH a0_4]⟩:BL),rfl,rfl,rfl⟩ ms
 ·replace hp:=cond_f q2 hp
  refine s7 ?_
  replace hp:=idx_bind hp;obtain ⟨⟨⟨u9_1,u9_2⟩,u9_3,u9_4,u9_5,u9_6,u9_7,u9_8⟩,hy9,hp⟩:=hp
  refine L_idxA (X:=a0_4) rfl rfl rfl el25.h (RdT.rowE mm (RdT.old h0_3)) hy9 ?_
  replace hp:=ba hp;obtain ⟨y11,hy11,hp⟩:=hp
  refine L_stR (X:=a0_4) (i:=y1.toNat) (v:=(((a1_1,a1_2),a1_3,a1_4,a1_5,a1_6,a1_7,a1_8):T_Lead)) rfl rfl pk hy9.2 agg89.h (fun X10 heX10 hhX10 hdX10=>?_)
  obtain rfl:GT.dat X10=y11:=hdX10.trans (Option.some.inj hy11)
  clear hy11 hdX10
  try rw [← hhX10]
  refine s6 ?_
  obtain rfl:=sj hp
  refine W_conv (M':=frz (fps []) (a0_3,((EL.mk a0_4.els),((a1_1,a1_2),a1_3,a1_4,a1_5,a1_6,a1_7,a1_8))) (a0_3,(EL.mk X10.els))::_) (fun w h=>pack [] pc (fun w' S ha=>by obtain ⟨h0_2,h0_3,h1⟩:=ha;exact (RdP.pair (RdP.old h0_2) (RdP.elSub (fun _ hx=>heX10 ▸ hx) (RdP.elSet (RdP.old h0_3) (RdP.pair (RdP.pair RdP.int RdP.int) (RdP.pair RdP.int (RdP.pair RdP.int (RdP.pair RdP.int (RdP.pair (RdP.old h1.2.2.2.2.1) (RdP.pair (RdP.old h1.2.2.2.2.2.1) RdP.bool)))))))))) h) ?_
  refine s1 ?_
  refine res1 rfl (ResOK.cell rfl mm (by exact agg27.h)) ⟨(a0_1,a0_2,a0_3,X10),(⟨fps []⟩:BL),rfl,rfl,rfl⟩ ms
noncomputable def s_l9Both (a0:D_ENode) (a1:D_EMsg):Option (List D_EMsg) :=
 Option.bind (some ([]:List D_EMsg)) (fun y2=>whileP (fun s3:(List D_EMsg)×Int=>cond (decide (s3.2 < 3)) (cond (decide (s3.2=a0.1)) (some (.inl ((s3.1,IntKind.wrap .i64 (s3.2+1))))) (Option.bind (s_l4Copy (a1.2.2.2.2.2.1.1,a1.2.2.2.2.2.1.2.1,a1.2.2.2.2.2.1.2.2.1,a1.2.2.2.2.2.1.2.2.2.1,a1.2.2.2.2.2.1.2.2.2.2.1,a1.2.2.2.2.2.1.2.2.2.2.2.1,a1.2.2.2.2.2.1.2.2.2.2.2.2.1,a1.2.2.2.2.2.1.2.2.2.2.2.2.2)) (fun y6=>Option.bind (some ([]:List D_Id)) (fun y8=>Option.bind (appP y8 a1.2.2.2.2.2.2.2.1) (fun y10=>Option.bind (appP s3.1 [(a1.1,a0.1,s3.2,(a1.2.2.2.1.1,a1.2.2.2.1.2),a1.2.2.2.2.1,(y6.1,y6.2.1,y6.2.2.1,y6.2.2.2.1,y6.2.2.2.2.1,y6.2.2.2.2.2.1,y6.2.2.2.2.2.2.1,y6.2.2.2.2.2.2.2),a1.2.2.2.2.2.2.1,y10,a1.2.2.2.2.2.2.2.2.1,(-1),a1.2.2.2.2.2.2.2.2.2.2)]) (fun y12=>some (.inl ((y12,IntKind.wrap .i64 (s3.2+1)))))))))) (Option.map .inr (some s3.1))) (y2,0))
theorem s_l9Both_walk (w:World) (a0:T_ENode) (a1:T_EMsg) (h0:GT.rd w [] a0) (h1:GT.rd w [] a1) (r:(List D_EMsg)) (hp:s_l9Both (GT.dat a0) (GT.dat a1)=some r):Spec Tryz.prog 68 [.agg (GT.cells a0).toArray,.agg (GT.cells a1).toArray].toArray w [] (fun v M=>∃ (x0:TL T_EMsg),v=(TL.hdr x0)∧GT.dat x0=r∧M=[treeH x0]):=by
 obtain ⟨a0_1,a0_2,a0_3,a0_4⟩:=a0
 obtain ⟨a1_1,a1_2,a1_3,⟨a1_4,a1_5⟩,a1_6,⟨a1_7,a1_8,a1_9,a1_10,a1_11,a1_12,a1_13,a1_14⟩,a1_15,a1_16,a1_17,a1_18,a1_19⟩:=a1
 change Spec _ _ ([Value.agg #[.int .i64 a0_1,.int .i64 a0_2,(TL.hdr a0_3),(TL.hdr a0_4)],Value.agg #[.int .i64 a1_1,.int .i64 a1_2,.int .i64 a1_3,.int .i64 a1_4,.int .i64 a1_5,.int .i64 a1_6,.int .i64 a1_7,.int .i64 a1_8,.int .i64 a1_9,.string a1_10,.string a1_11,.string a1_12,.int .i64 a1_13,(TL.hdr a1_14),.int .i64 a1_15,(TL.hdr a1_16),.int .i64 a1_17,.int .i64 a1_18,.bool a1_19]]:List Value).toArray w [] _
 refine Spec.intro Tryz.func68 rfl Tryz.ntmps68 rfl ?_
 unfold s_l9Both at hp
 replace hp:=dd hp
 refine s2 ?_
 refine bx fun bk2=>?_
 refine bx fun bk3=>?_
 refine L_assign (v:=(TL.hdr (TL.nil T_EMsg 0))) rfl rfl ?_
 refine s3 ?_
 replace hp:=ba hp;obtain ⟨y2,hy2,hp⟩:=hp
 refine L_mk0R T_EMsg rfl el38.h (fun X1 hdX1 hzX1=>?_)
 obtain rfl:GT.dat X1=y2:=hdX1.trans (Option.some.inj hy2)
 clear hy2 hdX1
 refine s8 ?_
 refine W_while (σ:=(TL T_EMsg)×Int) GT.dat (fun ((v3_0,v3_1):(TL T_EMsg)×Int)=>[(5,(TL.hdr v3_0)),(6,.int .i64 v3_1)]) (fun ((v3_0,v3_1):(TL T_EMsg)×Int)=>[treeH v3_0]) [(2,_),(3,_)] [blk bk2 _ _,blk bk3 _ _] (X1,0) hp sb ms ?_
 clear hp
 rintro ⟨v3_0,v3_1⟩ x3 hp hx3
 replace hp:=dd hp
 refine kq [2,3,5,6] ?_
 refine s6 ?_
 refine kp [2,3,5,6,10] ?_
 refine W_cond rfl (fun q4=>?_) (fun q4=>?_)
 ·replace hp:=cond_t q4 hp
  refine s11 ?_
  refine kp [2,3,5,6,16] ?_
  refine W_cond rfl (fun q5=>?_) (fun q5=>?_)
  ·replace hp:=cond_t q5 hp
   refine W_exit ?_
   refine s5 ?_
   exact ⟨(v3_0,IntKind.wrap .i64 (v3_1+1)),sb,(.sub ms),some_eq hp⟩
  ·replace hp:=cond_f q5 hp
   refine s4 ?_
   refine al fun bk7=>?_
   refine s20 ?_
   refine s3 ?_
   refine L_loadW rfl rfl (RdC.seg (RdC.blk mm) 6 8 rfl) (by exact agg32.h) ?_
   replace hp:=ba hp;obtain ⟨y6,hy6,hp⟩:=hp
   refine L_callR rfl fn87.h rfl (by exact fun w hw=>s_l4Copy_walk w (a1_7,a1_8,a1_9,a1_10,a1_11,a1_12,a1_13,a1_14) (RdT.now (RdT.pair RdT.int (RdT.pair RdT.int (RdT.pair RdT.int (RdT.pair RdT.str (RdT.pair RdT.str (RdT.pair RdT.str (RdT.pair RdT.int (RdT.old h1.2.2.2.2.2.1.2.2.2.2.2.2.2)))))))) hw) _ hy6) ?_
   rintro _ _ ⟨⟨y6x0_1,y6x0_2,y6x0_3,y6x0_4,y6x0_5,y6x0_6,y6x0_7,y6x0_8⟩,rfl,rfl,rfl⟩
   refine sc ?_
   replace hp:=dd hp
   refine xL ((y6x0_1,y6x0_2,y6x0_3,y6x0_4,y6x0_5,y6x0_6,y6x0_7,y6x0_8):T_Cmd) ?_
   refine s1 ?_
   refine L_storeA (fo:=6) rfl rfl pk (by exact agg32.h) (Nat.le_of_ble_eq_true rfl) ocs rfl ?_
   refine s3 ?_
   replace hp:=ba hp;obtain ⟨y8,hy8,hp⟩:=hp
   refine L_mk0 T_Id rfl el33.h (fun X7 hdX7=>?_)
   obtain rfl:GT.dat X7=y8:=hdX7.trans (Option.some.inj hy8)
   clear hy8 hdX7
   refine s2 ?_
   replace hp:=ba hp;obtain ⟨y10,hy10,hp⟩:=hp
   refine L_appT (X:=X7) (Y:=a1_16) rfl rfl rfl el33.h rfl rfl pk (RdT.old h1.2.2.2.2.2.2.2.1) hy10 (by decide) (fun X9 hdX9=>?_)
   subst hdX9
   refine s6 ?_
   refine L_buildSlice1 rfl rfl el38.h rfl (by decide) (by decide) rfl (fun bb35=>?_)
   replace hp:=ba hp;obtain ⟨y12,hy12,hp⟩:=hp
   refine jL ((a1_1,a0_1,v3_1,(a1_4,a1_5),a1_6,(y6x0_1,y6x0_2,y6x0_3,y6x0_4,y6x0_5,y6x0_6,y6x0_7,y6x0_8),a1_15,X9,a1_17,(-1),a1_19):T_EMsg) ?_
   refine L_app1m (X:=v3_0) ((a1_1,a0_1,v3_1,(a1_4,a1_5),a1_6,(y6x0_1,y6x0_2,y6x0_3,y6x0_4,y6x0_5,y6x0_6,y6x0_7,y6x0_8),a1_15,X9,a1_17,(-1),a1_19):T_EMsg) rfl rfl rfl el38.h rfl rfl pk mm pk hy12 (by decide) (fun X11 hdX11 hmX11=>?_)
   subst hdX11
   refine s7 ?_
   exact ⟨(X11,IntKind.wrap .i64 (v3_1+1)),sb,(.sub ms),some_eq hp⟩
 ·replace hp:=cond_f q4 hp
  refine W_exit ?_
  replace hp:=map_any hp;obtain ⟨a13,hp,z_13⟩:=hp
  obtain rfl:=hx3 _ z_13
  refine s5 ?_
  obtain rfl:=sj hp
  refine s1 ?_
  refine res1 rfl (ResOK.tmp rfl) ⟨v3_0,rfl,rfl,rfl⟩ ms
noncomputable def s_l9Say (a0:D_ENode) (a1:Int) (a2:D_Inst) (a3:Int):Option (List D_EMsg) :=
 Option.bind (s_l9Both (a0.1,a0.2.1,a0.2.2.1,a0.2.2.2) (a1,0,0,(a2.1.1,a2.1.2),a3,(a2.2.2.2.2.1.1,a2.2.2.2.2.1.2.1,a2.2.2.2.2.1.2.2.1,a2.2.2.2.2.1.2.2.2.1,a2.2.2.2.2.1.2.2.2.2.1,a2.2.2.2.2.1.2.2.2.2.2.1,a2.2.2.2.2.1.2.2.2.2.2.2.1,a2.2.2.2.2.1.2.2.2.2.2.2.2),a2.2.2.2.2.2.1,a2.2.2.2.2.2.2.1,0,0,false)) (fun y1=>some y1)
theorem s_l9Say_walk (w:World) (a0:T_ENode) (a1:Int) (a2:T_Inst) (a3:Int) (h0:GT.rd w [] a0) (h2:GT.rd w [] a2) (r:(List D_EMsg)) (hp:s_l9Say (GT.dat a0) a1 (GT.dat a2) a3=some r):Spec Tryz.prog 88 [.agg (GT.cells a0).toArray,.int .i64 a1,.agg (GT.cells a2).toArray,.int .i64 a3].toArray w [] (fun v M=>∃ (x0:TL T_EMsg),v=(TL.hdr x0)∧GT.dat x0=r∧M=[treeH x0]):=by
 obtain ⟨a0_1,a0_2,a0_3,a0_4⟩:=a0
 obtain ⟨⟨a2_1,a2_2⟩,a2_3,a2_4,a2_5,⟨a2_6,a2_7,a2_8,a2_9,a2_10,a2_11,a2_12,a2_13⟩,a2_14,a2_15,a2_16⟩:=a2
 change Spec _ _ ([Value.agg #[.int .i64 a0_1,.int .i64 a0_2,(TL.hdr a0_3),(TL.hdr a0_4)],.int .i64 a1,Value.agg #[.int .i64 a2_1,.int .i64 a2_2,.int .i64 a2_3,.int .i64 a2_4,.int .i64 a2_5,.int .i64 a2_6,.int .i64 a2_7,.int .i64 a2_8,.string a2_9,.string a2_10,.string a2_11,.int .i64 a2_12,(TL.hdr a2_13),.int .i64 a2_14,(TL.hdr a2_15),.bool a2_16],.int .i64 a3]:List Value).toArray w [] _
 refine Spec.intro Tryz.func88 rfl Tryz.ntmps88 rfl ?_
 unfold s_l9Say at hp
 replace hp:=dd hp
 refine s2 ?_
 refine bx fun bk4=>?_
 refine bx fun bk6=>?_
 refine L_assign (v:=(TL.hdr (TL.nil T_EMsg 0))) rfl rfl ?_
 refine s6 ?_
 refine L_loadW rfl rfl (RdC.seg (RdC.blk mm) 0 2 rfl) (by exact agg29.h) ?_
 refine s2 ?_
 refine L_loadW rfl rfl (RdC.seg (RdC.blk mm) 5 8 rfl) (by exact agg32.h) ?_
 refine s4 ?_
 refine L_build (xs:=[(0,.tmp 10),(3,.tmp 12),(4,.tmp 13),(5,.tmp 15),(6,.tmp 17),(7,.tmp 19)]) (cs:=[.int .i64 a1,.int .i64 0,.int .i64 0,.int .i64 a2_1,.int .i64 a2_2,.int .i64 a3,.int .i64 a2_6,.int .i64 a2_7,.int .i64 a2_8,.string a2_9,.string a2_10,.string a2_11,.int .i64 a2_12,(TL.hdr a2_13),.int .i64 a2_14,(TL.hdr a2_15),.int .i64 0,.int .i64 0,.bool false]) rfl rfl bld35.h rfl ?_
 replace hp:=ba hp;obtain ⟨y1,hy1,hp⟩:=hp
 refine L_callR rfl fn68.h rfl (by exact fun w hw=>s_l9Both_walk w (a0_1,a0_2,a0_3,a0_4) (a1,0,0,(a2_1,a2_2),a3,(a2_6,a2_7,a2_8,a2_9,a2_10,a2_11,a2_12,a2_13),a2_14,a2_15,0,0,false) (RdT.now (RdT.pair RdT.int (RdT.pair RdT.int (RdT.pair (RdT.old h0.2.2.1) (RdT.old h0.2.2.2)))) hw) (RdT.now (RdT.pair RdT.int (RdT.pair RdT.int (RdT.pair RdT.int (RdT.pair (RdT.pair RdT.int RdT.int) (RdT.pair RdT.int (RdT.pair (RdT.pair RdT.int (RdT.pair RdT.int (RdT.pair RdT.int (RdT.pair RdT.str (RdT.pair RdT.str (RdT.pair RdT.str (RdT.pair RdT.int (RdT.old h2.2.2.2.2.1.2.2.2.2.2.2.2)))))))) (RdT.pair RdT.int (RdT.pair (RdT.old h2.2.2.2.2.2.2.1) (RdT.pair RdT.int (RdT.pair RdT.int RdT.bool)))))))))) hw) _ hy1) ?_
 rintro _ _ ⟨y1x0,rfl,rfl,rfl⟩
 refine sc ?_
 replace hp:=dd hp
 refine s2 ?_
 obtain rfl:=sj hp
 refine s1 ?_
 refine res1 rfl (ResOK.tmp rfl) ⟨y1x0,rfl,rfl,rfl⟩ ms
noncomputable def s_l9Accept (a0:D_ENode) (a1:D_Lead):Option (D_ENode×(List D_EMsg)) :=
 Option.bind (s_InstAt a0.2.2.1 (a1.1.1,a1.1.2)) (fun y1=>cond (!decide (y1.2.1=a1.2.1)) (Option.bind (s_l9Drop (a0.1,a0.2.1,a0.2.2.1,a0.2.2.2) (a1.1.1,a1.1.2)) (fun y3=>Option.bind (some ([]:List D_EMsg)) (fun y5=>some ((y3.1,y3.2.1,y3.2.2.1,y3.2.2.2),y5)))) (Option.bind (some ([]:List D_Id)) (fun y7=>Option.bind (appP y7 a1.2.2.2.2.1) (fun y9=>Option.bind (s_l8Put a0.2.2.1 ((y1.1.1,y1.1.2),y1.2.1,a1.2.1,2,(y1.2.2.2.2.1.1,y1.2.2.2.2.1.2.1,y1.2.2.2.2.1.2.2.1,y1.2.2.2.2.1.2.2.2.1,y1.2.2.2.2.1.2.2.2.2.1,y1.2.2.2.2.1.2.2.2.2.2.1,y1.2.2.2.2.1.2.2.2.2.2.2.1,y1.2.2.2.2.1.2.2.2.2.2.2.2),a1.2.2.2.1,y9,false)) (fun y10=>Option.bind (some ([]:List Int)) (fun y12=>Option.bind (s_l9Put (a0.1,a0.2.1,y10,a0.2.2.2) ((a1.1.1,a1.1.2),a1.2.1,2,a1.2.2.2.1,a1.2.2.2.2.1,y12,a1.2.2.2.2.2.2)) (fun y13=>Option.bind (s_l9Say (y13.1,y13.2.1,y13.2.2.1,y13.2.2.2) 3 ((y1.1.1,y1.1.2),y1.2.1,a1.2.1,2,(y1.2.2.2.2.1.1,y1.2.2.2.2.1.2.1,y1.2.2.2.2.1.2.2.1,y1.2.2.2.2.1.2.2.2.1,y1.2.2.2.2.1.2.2.2.2.1,y1.2.2.2.2.1.2.2.2.2.2.1,y1.2.2.2.2.1.2.2.2.2.2.2.1,y1.2.2.2.2.1.2.2.2.2.2.2.2),a1.2.2.2.1,y9,false) a1.2.1) (fun y14=>some ((y13.1,y13.2.1,y13.2.2.1,y13.2.2.2),y14)))))))))
theorem s_l9Accept_walk (w:World) (a0:T_ENode) (a1:T_Lead) (h1:GT.rd w (fps [rowH a0.2.2.2]) a1) (h0_2:GT.rd w (fps [rowH a0.2.2.2]) a0.2.2.1) (h0_3:GT.rd w (fps [rowH a0.2.2.2]) (EL.mk a0.2.2.2.els)) (r:D_ENode×(List D_EMsg)) (hp:s_l9Accept (GT.dat a0) (GT.dat a1)=some r):Spec Tryz.prog 94 [.agg (GT.cells a0).toArray,.agg (GT.cells a1).toArray].toArray w [rowH a0.2.2.2] (fun v M=>∃ (x0:T_ENode) (x1:TL T_EMsg) (B:BL),v=.tuple #[.agg (GT.cells x0).toArray,(TL.hdr x1)]∧(GT.dat x0,GT.dat x1)=r∧M=[rowH x0.2.2.2,treeH x1,frz B.l (a0.2.2.1,((EL.mk a0.2.2.2.els),a1)) (x0.2.2.1,(EL.mk x0.2.2.2.els))]):=by
 obtain ⟨a0_1,a0_2,a0_3,a0_4⟩:=a0
 obtain ⟨⟨a1_1,a1_2⟩,a1_3,a1_4,a1_5,a1_6,a1_7,a1_8⟩:=a1
 change Spec _ _ ([Value.agg #[.int .i64 a0_1,.int .i64 a0_2,(TL.hdr a0_3),(TL.hdr a0_4)],Value.agg #[.int .i64 a1_1,.int .i64 a1_2,.int .i64 a1_3,.int .i64 a1_4,.int .i64 a1_5,(TL.hdr a1_6),(TL.hdr a1_7),.bool a1_8]]:List Value).toArray w _ _
 refine Spec.intro Tryz.func94 rfl Tryz.ntmps94 rfl ?_
 unfold s_l9Accept at hp
 replace hp:=dd hp
 refine s2 ?_
 refine bx fun bk2=>?_
 refine bx fun bk3=>?_
 refine al fun bk4=>?_
 refine L_assign (v:=(TL.hdr (TL.nil T_EMsg 0))) rfl rfl ?_
 refine s6 ?_
 refine L_loadW rfl rfl (RdC.seg (RdC.blk mm) 0 2 rfl) (by exact agg29.h) ?_
 replace hp:=ba hp;obtain ⟨y1,hy1,hp⟩:=hp
 refine L_callR rfl fn14.h rfl (by exact fun w hw=>s_InstAt_walk w a0_3 (a1_1,a1_2) (RdT.now (RdT.old h0_2) hw) (RdT.now (RdT.pair RdT.int RdT.int) hw) _ hy1) ?_
 rintro _ _ ⟨⟨⟨y1x0_1,y1x0_2⟩,y1x0_3,y1x0_4,y1x0_5,⟨y1x0_6,y1x0_7,y1x0_8,y1x0_9,y1x0_10,y1x0_11,y1x0_12,y1x0_13⟩,y1x0_14,y1x0_15,y1x0_16⟩,rfl,rfl,rfl⟩
 refine sc ?_
 replace hp:=dd hp
 refine xL (((y1x0_1,y1x0_2),y1x0_3,y1x0_4,y1x0_5,(y1x0_6,y1x0_7,y1x0_8,y1x0_9,y1x0_10,y1x0_11,y1x0_12,y1x0_13),y1x0_14,y1x0_15,y1x0_16):T_Inst) ?_
 refine al fun bk6=>?_
 refine s11 ?_
 refine kp [2,3,4,6,16] ?_
 refine W_cond rfl (fun q2=>?_) (fun q2=>?_)
 ·replace hp:=cond_t q2 hp
  refine s4 ?_
  refine L_loadW rfl rfl (RdC.seg (RdC.blk mm) 0 2 rfl) (by exact agg29.h) ?_
  replace hp:=ba hp;obtain ⟨y3,hy3,hp⟩:=hp
  refine L_callR rfl fn153.h rfl (by exact fun w hw=>s_l9Drop_walk w (a0_1,a0_2,a0_3,a0_4) (a1_1,a1_2) (RdT.now (RdT.pair RdT.int (RdT.pair RdT.int (RdT.pair (RdT.old h0_2) (RdT.rowE mm (RdT.old h0_3))))) hw) (RdT.now (RdT.pair RdT.int RdT.int) hw) _ hy3) ?_
  rintro _ _ ⟨⟨y3x0_1,y3x0_2,y3x0_3,y3x0_4⟩,By3,rfl,rfl,rfl⟩
  refine sc ?_
  replace hp:=dd hp
  replace hp:=ba hp;obtain ⟨y5,hy5,hp⟩:=hp
  refine L_mk0R T_EMsg rfl el38.h (fun X4 hdX4 hzX4=>?_)
  obtain rfl:GT.dat X4=y5:=hdX4.trans (Option.some.inj hy5)
  clear hy5 hdX4
  refine s3 ?_
  obtain rfl:=sj hp
  refine W_conv (M':=frz (fps [frz By3.l ((a0_1,a0_2,a0_3,a0_4):T_ENode) (y3x0_3,(EL.mk y3x0_4.els)),rowH a0_4]) (a0_3,((EL.mk a0_4.els),((a1_1,a1_2),a1_3,a1_4,a1_5,a1_6,a1_7,a1_8))) (y3x0_3,(EL.mk y3x0_4.els))::_) (fun w h=>pack [frz By3.l ((a0_1,a0_2,a0_3,a0_4):T_ENode) (y3x0_3,(EL.mk y3x0_4.els)),rowH a0_4] pc (fun w' S ha=>by obtain ⟨h0_2,h0_3,h1⟩:=ha;exact (RdP.pair (RdP.fst (RdP.frz (B:=By3.l) (a:=((a0_1,a0_2,a0_3,a0_4):T_ENode)) (t:=(y3x0_3,(EL.mk y3x0_4.els))) mm (RdP.pair RdP.int (RdP.pair RdP.int (RdP.pair (RdP.old h0_2) (RdP.rowE mm (RdP.old h0_3))))))) (RdP.snd (RdP.frz (B:=By3.l) (a:=((a0_1,a0_2,a0_3,a0_4):T_ENode)) (t:=(y3x0_3,(EL.mk y3x0_4.els))) mm (RdP.pair RdP.int (RdP.pair RdP.int (RdP.pair (RdP.old h0_2) (RdP.rowE mm (RdP.old h0_3))))))))) h) ?_
  refine s1 ?_
  refine res2 rfl (ResOK.cell rfl mm (by exact agg27.h)) (ResOK.tmp rfl) ⟨(y3x0_1,y3x0_2,y3x0_3,y3x0_4),X4,(⟨fps [frz By3.l ((a0_1,a0_2,a0_3,a0_4):T_ENode) (y3x0_3,(EL.mk y3x0_4.els)),rowH a0_4]⟩:BL),rfl,rfl,rfl⟩ ms
 ·replace hp:=cond_f q2 hp
  refine s20 ?_
  refine s2 ?_
  replace hp:=ba hp;obtain ⟨y7,hy7,hp⟩:=hp
  refine L_mk0 T_Id rfl el33.h (fun X6 hdX6=>?_)
  obtain rfl:GT.dat X6=y7:=hdX6.trans (Option.some.inj hy7)
  clear hy7 hdX6
  refine s2 ?_
  replace hp:=ba hp;obtain ⟨y9,hy9,hp⟩:=hp
  refine L_appT (X:=X6) (Y:=a1_6) rfl rfl rfl el33.h rfl rfl pk (RdT.old h1.2.2.2.2.1) hy9 (by decide) (fun X8 hdX8=>?_)
  subst hdX8
  refine s13 ?_
  replace hp:=ba hp;obtain ⟨y10,hy10,hp⟩:=hp
  refine L_callR rfl fn66.h rfl (by exact fun w hw=>s_l8Put_walk w a0_3 ((y1x0_1,y1x0_2),y1x0_3,a1_3,2,(y1x0_6,y1x0_7,y1x0_8,y1x0_9,y1x0_10,y1x0_11,y1x0_12,y1x0_13),a1_5,X8,false) (RdT.now (RdT.old h0_2) hw) (RdT.now (RdT.pair (RdT.pair RdT.int RdT.int) (RdT.pair RdT.int (RdT.pair RdT.int (RdT.pair RdT.int (RdT.pair (RdT.pair RdT.int (RdT.pair RdT.int (RdT.pair RdT.int (RdT.pair RdT.str (RdT.pair RdT.str (RdT.pair RdT.str (RdT.pair RdT.int (RdT.tree mm)))))))) (RdT.pair RdT.int (RdT.pair (RdT.tree mm) RdT.bool))))))) hw) _ hy10) ?_
  rintro _ _ ⟨y10x0,By10,rfl,rfl,rfl⟩
  refine sc ?_
  replace hp:=dd hp
  refine s10 ?_
  replace hp:=ba hp;obtain ⟨y12,hy12,hp⟩:=hp
  refine L_mk0 Int rfl el87.h (fun X11 hdX11=>?_)
  obtain rfl:GT.dat X11=y12:=hdX11.trans (Option.some.inj hy12)
  clear hy12 hdX11
  refine s7 ?_
  replace hp:=ba hp;obtain ⟨y13,hy13,hp⟩:=hp
  refine L_callM [rowH a0_4] _ rfl fn67.h rfl pc (by exact fun w hw=>s_l9Put_walk w (a0_1,a0_2,y10x0,a0_4) ((a1_1,a1_2),a1_3,2,a1_5,a1_6,X11,a1_8) ((RdX.pair (RdX.pair RdX.int RdX.int) (RdX.pair RdX.int (RdX.pair RdX.int (RdX.pair RdX.int (RdX.pair (RdX.old h1.2.2.2.2.1) (RdX.pair (RdX.tree mm) RdX.bool)))))) w hw) ((RdX.frz (B:=By10.l) (a:=(a0_3,(((y1x0_1,y1x0_2),y1x0_3,a1_3,2,(y1x0_6,y1x0_7,y1x0_8,y1x0_9,y1x0_10,y1x0_11,y1x0_12,y1x0_13),a1_5,X8,false):T_Inst))) (t:=y10x0) mm (RdX.pair (RdX.old h0_2) (RdX.pair (RdX.pair RdX.int RdX.int) (RdX.pair RdX.int (RdX.pair RdX.int (RdX.pair RdX.int (RdX.pair (RdX.pair RdX.int (RdX.pair RdX.int (RdX.pair RdX.int (RdX.pair RdX.str (RdX.pair RdX.str (RdX.pair RdX.str (RdX.pair RdX.int (RdX.tree mm)))))))) (RdX.pair RdX.int (RdX.pair (RdX.tree mm) RdX.bool))))))))) w hw) ((RdX.old h0_3) w hw) _ hy13) ?_
  rintro _ _ ⟨⟨y13x0_1,y13x0_2,y13x0_3,y13x0_4⟩,By13,rfl,rfl,rfl⟩
  refine sc ?_
  replace hp:=dd hp
  refine s3 ?_
  replace hp:=ba hp;obtain ⟨y14,hy14,hp⟩:=hp
  refine W_DS (pre:=[_,_,_,_,_,_]) (suf:=[_,_]) [46,51] [] _ pc mix (by kernel_rfl) (by kernel_rfl) rfl ?_
  refine s5 ?_
  refine D_call1R (fun v M=>∃ (x0:TL T_EMsg),v=(TL.hdr x0)∧GT.dat x0=y14∧M=[treeH x0]) fn88.h (OpVs.cons (OpV.t rfl) (OpVs.cons OpV.c (OpVs.cons (OpV.t rfl) (OpVs.cons (OpV.t rfl) (OpVs.nil))))) (by exact fun w F hF hM=>s_l9Say_walk w (y13x0_1,y13x0_2,y13x0_3,y13x0_4) 3 ((y1x0_1,y1x0_2),y1x0_3,a1_3,2,(y1x0_6,y1x0_7,y1x0_8,y1x0_9,y1x0_10,y1x0_11,y1x0_12,y1x0_13),a1_5,X8,false) a1_3 (RdT.nowS (RdT.pair RdT.int (RdT.pair RdT.int (RdT.pair (RdT.fst (RdT.frz (B:=By13.l) (a:=(y10x0,((EL.mk a0_4.els),(((a1_1,a1_2),a1_3,2,a1_5,a1_6,X11,a1_8):T_Lead)))) (t:=(y13x0_3,(EL.mk y13x0_4.els))) mm (RdT.pair (RdT.frz (B:=By10.l) (a:=(a0_3,(((y1x0_1,y1x0_2),y1x0_3,a1_3,2,(y1x0_6,y1x0_7,y1x0_8,y1x0_9,y1x0_10,y1x0_11,y1x0_12,y1x0_13),a1_5,X8,false):T_Inst))) (t:=y10x0) mm (RdT.pair (RdT.old h0_2) (RdT.pair (RdT.pair RdT.int RdT.int) (RdT.pair RdT.int (RdT.pair RdT.int (RdT.pair RdT.int (RdT.pair (RdT.pair RdT.int (RdT.pair RdT.int (RdT.pair RdT.int (RdT.pair RdT.str (RdT.pair RdT.str (RdT.pair RdT.str (RdT.pair RdT.int (RdT.tree mm)))))))) (RdT.pair RdT.int (RdT.pair (RdT.tree mm) RdT.bool))))))))) (RdT.pair (RdT.old h0_3) (RdT.pair (RdT.pair RdT.int RdT.int) (RdT.pair RdT.int (RdT.pair RdT.int (RdT.pair RdT.int (RdT.pair (RdT.old h1.2.2.2.2.1) (RdT.pair (RdT.tree mm) RdT.bool)))))))))) (RdT.rowE mm (RdT.snd (RdT.frz (B:=By13.l) (a:=(y10x0,((EL.mk a0_4.els),(((a1_1,a1_2),a1_3,2,a1_5,a1_6,X11,a1_8):T_Lead)))) (t:=(y13x0_3,(EL.mk y13x0_4.els))) mm (RdT.pair (RdT.frz (B:=By10.l) (a:=(a0_3,(((y1x0_1,y1x0_2),y1x0_3,a1_3,2,(y1x0_6,y1x0_7,y1x0_8,y1x0_9,y1x0_10,y1x0_11,y1x0_12,y1x0_13),a1_5,X8,false):T_Inst))) (t:=y10x0) mm (RdT.pair (RdT.old h0_2) (RdT.pair (RdT.pair RdT.int RdT.int) (RdT.pair RdT.int (RdT.pair RdT.int (RdT.pair RdT.int (RdT.pair (RdT.pair RdT.int (RdT.pair RdT.int (RdT.pair RdT.int (RdT.pair RdT.str (RdT.pair RdT.str (RdT.pair RdT.str (RdT.pair RdT.int (RdT.tree mm)))))))) (RdT.pair RdT.int (RdT.pair (RdT.tree mm) RdT.bool))))))))) (RdT.pair (RdT.old h0_3) (RdT.pair (RdT.pair RdT.int RdT.int) (RdT.pair RdT.int (RdT.pair RdT.int (RdT.pair RdT.int (RdT.pair (RdT.old h1.2.2.2.2.1) (RdT.pair (RdT.tree mm) RdT.bool)))))))))))))) hF hM) (RdT.nowS (RdT.pair (RdT.pair RdT.int RdT.int) (RdT.pair RdT.int (RdT.pair RdT.int (RdT.pair RdT.int (RdT.pair (RdT.pair RdT.int (RdT.pair RdT.int (RdT.pair RdT.int (RdT.pair RdT.str (RdT.pair RdT.str (RdT.pair RdT.str (RdT.pair RdT.int (RdT.tree mm)))))))) (RdT.pair RdT.int (RdT.pair (RdT.tree mm) RdT.bool))))))) hF hM) _ hy14) ?_
  refine s1 ?_
  refine Give_R rfl rfl ?_
  rintro _ _ ⟨y14x0,rfl,rfl,rfl⟩
  refine s6 ?_
  refine sc ?_
  replace hp:=dd hp
  refine s3 ?_
  obtain rfl:=sj hp
  refine W_conv (M':=frz (fps [frz By13.l (y10x0,((EL.mk a0_4.els),(((a1_1,a1_2),a1_3,2,a1_5,a1_6,X11,a1_8):T_Lead))) (y13x0_3,(EL.mk y13x0_4.els)),frz By10.l (a0_3,(((y1x0_1,y1x0_2),y1x0_3,a1_3,2,(y1x0_6,y1x0_7,y1x0_8,y1x0_9,y1x0_10,y1x0_11,y1x0_12,y1x0_13),a1_5,X8,false):T_Inst)) y10x0,treeH y1x0_13,treeH X8,treeH X11]) (a0_3,((EL.mk a0_4.els),((a1_1,a1_2),a1_3,a1_4,a1_5,a1_6,a1_7,a1_8))) (y13x0_3,(EL.mk y13x0_4.els))::_) (fun w h=>pack [frz By13.l (y10x0,((EL.mk a0_4.els),(((a1_1,a1_2),a1_3,2,a1_5,a1_6,X11,a1_8):T_Lead))) (y13x0_3,(EL.mk y13x0_4.els)),frz By10.l (a0_3,(((y1x0_1,y1x0_2),y1x0_3,a1_3,2,(y1x0_6,y1x0_7,y1x0_8,y1x0_9,y1x0_10,y1x0_11,y1x0_12,y1x0_13),a1_5,X8,false):T_Inst)) y10x0,treeH y1x0_13,treeH X8,treeH X11] pc (fun w' S ha=>by obtain ⟨h0_2,h0_3,h1⟩:=ha;exact (RdP.pair (RdP.fst (RdP.frz (B:=By13.l) (a:=(y10x0,((EL.mk a0_4.els),(((a1_1,a1_2),a1_3,2,a1_5,a1_6,X11,a1_8):T_Lead)))) (t:=(y13x0_3,(EL.mk y13x0_4.els))) mm (RdP.pair (RdP.frz (B:=By10.l) (a:=(a0_3,(((y1x0_1,y1x0_2),y1x0_3,a1_3,2,(y1x0_6,y1x0_7,y1x0_8,y1x0_9,y1x0_10,y1x0_11,y1x0_12,y1x0_13),a1_5,X8,false):T_Inst))) (t:=y10x0) mm (RdP.pair (RdP.old h0_2) (RdP.pair (RdP.pair RdP.int RdP.int) (RdP.pair RdP.int (RdP.pair RdP.int (RdP.pair RdP.int (RdP.pair (RdP.pair RdP.int (RdP.pair RdP.int (RdP.pair RdP.int (RdP.pair RdP.str (RdP.pair RdP.str (RdP.pair RdP.str (RdP.pair RdP.int (RdP.tree mm)))))))) (RdP.pair RdP.int (RdP.pair (RdP.tree mm) RdP.bool))))))))) (RdP.pair (RdP.old h0_3) (RdP.pair (RdP.pair RdP.int RdP.int) (RdP.pair RdP.int (RdP.pair RdP.int (RdP.pair RdP.int (RdP.pair (RdP.old h1.2.2.2.2.1) (RdP.pair (RdP.tree mm) RdP.bool)))))))))) (RdP.snd (RdP.frz (B:=By13.l) (a:=(y10x0,((EL.mk a0_4.els),(((a1_1,a1_2),a1_3,2,a1_5,a1_6,X11,a1_8):T_Lead)))) (t:=(y13x0_3,(EL.mk y13x0_4.els))) mm (RdP.pair (RdP.frz (B:=By10.l) (a:=(a0_3,(((y1x0_1,y1x0_2),y1x0_3,a1_3,2,(y1x0_6,y1x0_7,y1x0_8,y1x0_9,y1x0_10,y1x0_11,y1x0_12,y1x0_13),a1_5,X8,false):T_Inst))) (t:=y10x0) mm (RdP.pair (RdP.old h0_2) (RdP.pair (RdP.pair RdP.int RdP.int) (RdP.pair RdP.int (RdP.pair RdP.int (RdP.pair RdP.int (RdP.pair (RdP.pair RdP.int (RdP.pair RdP.int (RdP.pair RdP.int (RdP.pair RdP.str (RdP.pair RdP.str (RdP.pair RdP.str (RdP.pair RdP.int (RdP.tree mm)))))))) (RdP.pair RdP.int (RdP.pair (RdP.tree mm) RdP.bool))))))))) (RdP.pair (RdP.old h0_3) (RdP.pair (RdP.pair RdP.int RdP.int) (RdP.pair RdP.int (RdP.pair RdP.int (RdP.pair RdP.int (RdP.pair (RdP.old h1.2.2.2.2.1) (RdP.pair (RdP.tree mm) RdP.bool)))))))))))) h) ?_
  refine s1 ?_
  refine res2 rfl (ResOK.cell rfl mm (by exact agg27.h)) (ResOK.tmp rfl) ⟨(y13x0_1,y13x0_2,y13x0_3,y13x0_4),y14x0,(⟨fps [frz By13.l (y10x0,((EL.mk a0_4.els),(((a1_1,a1_2),a1_3,2,a1_5,a1_6,X11,a1_8):T_Lead))) (y13x0_3,(EL.mk y13x0_4.els)),frz By10.l (a0_3,(((y1x0_1,y1x0_2),y1x0_3,a1_3,2,(y1x0_6,y1x0_7,y1x0_8,y1x0_9,y1x0_10,y1x0_11,y1x0_12,y1x0_13),a1_5,X8,false):T_Inst)) y10x0,treeH y1x0_13,treeH X8,treeH X11]⟩:BL),rfl,rfl,rfl⟩ ms
noncomputable def s_ENodeSlow (a0:D_ENode) (a1:D_Id):Option (D_ENode×(List D_EMsg)×Bool) :=
 Option.bind (s_ENodeOk (a0.1,a0.2.1,a0.2.2.1,a0.2.2.2)) (fun y1=>cond (!y1) (Option.bind (some ([]:List D_EMsg)) (fun y4=>some ((0,0,([]:List D_Inst),([]:List D_Lead)),y4,false))) (Option.bind (s_l9Copy (a0.1,a0.2.1,a0.2.2.1,a0.2.2.2)) (fun y5=>Option.bind (s_l9At (y5.1,y5.2.1,y5.2.2.1,y5.2.2.2) (a1.1,a1.2)) (fun y6=>gb (!(decide (y6 < 0))) (idx y5.2.2.2 y6) (fun y7=>gb (!((decide (y6 < 0))||(!decide (y7.2.2.1=1)))) (idx y5.2.2.2 y6) (fun y8=>cond (((decide (y6 < 0))||(!decide (y7.2.2.1=1)))||(decide ((y8.2.2.2.2.2.1.length:Int)=0))) (Option.bind (some ([]:List D_EMsg)) (fun y11=>some ((y5.1,y5.2.1,y5.2.2.1,y5.2.2.2),y11,false))) (Option.bind (idx y5.2.2.2 y6) (fun y12=>Option.bind (s_l9Accept (y5.1,y5.2.1,y5.2.2.1,y5.2.2.2) ((y12.1.1,y12.1.2),y12.2.1,y12.2.2.1,y12.2.2.2.1,y12.2.2.2.2.1,y12.2.2.2.2.2.1,y12.2.2.2.2.2.2)) (fun y14=>Option.bind (s_l9Copy (y14.1.1,y14.1.2.1,y14.1.2.2.1,y14.1.2.2.2)) (fun y15=>some ((y15.1,y15.2.1,y15.2.2.1,y15.2.2.2),y14.2,true)))))))))))
theorem s_ENodeSlow_walk (w:World) (a0:T_ENode) (a1:T_Id) (h0:GT.rd w [] a0) (h1:GT.rd w [] a1) (r:D_ENode×(List D_EMsg)×Bool) (hp:s_ENodeSlow (GT.dat a0) (GT.dat a1)=some r):Spec Tryz.prog 35 [.agg (GT.cells a0).toArray,.agg (GT.cells a1).toArray].toArray w [] (fun v M=>∃ (x0:T_ENode) (x1:TL T_EMsg) (x2:Bool),v=.tuple #[.agg (GT.cells x0).toArray,(TL.hdr x1),.bool x2]∧(GT.dat x0,GT.dat x1,GT.dat x2)=r∧M=[treeH x0,treeH x1]):=by
 obtain ⟨a0_1,a0_2,a0_3,a0_4⟩:=a0
 obtain ⟨a1_1,a1_2⟩:=a1
 change Spec _ _ ([Value.agg #[.int .i64 a0_1,.int .i64 a0_2,(TL.hdr a0_3),(TL.hdr a0_4)],Value.agg #[.int .i64 a1_1,.int .i64 a1_2]]:List Value).toArray w [] _
 refine Spec.intro Tryz.func35 rfl Tryz.ntmps35 rfl ?_
 unfold s_ENodeSlow at hp
 replace hp:=dd hp
 refine s2 ?_
 refine bx fun bk2=>?_
 refine bx fun bk3=>?_
 refine al fun bk4=>?_
 refine L_assign (v:=(TL.hdr (TL.nil T_EMsg 0))) rfl rfl ?_
 refine s6 ?_
 replace hp:=ba hp;obtain ⟨y1,hy1,hp⟩:=hp
 refine L_callX rfl fn13.h rfl (by exact fun w hw=>s_ENodeOk_walk w (a0_1,a0_2,a0_3,a0_4) (RdT.now (RdT.pair RdT.int (RdT.pair RdT.int (RdT.pair (RdT.old h0.2.2.1) (RdT.old h0.2.2.2)))) hw) _ hy1) ?_
 refine s2 ?_
 refine kp [2,3,4,13] ?_
 refine W_cond rfl (fun q2=>?_) (fun q2=>?_)
 ·replace hp:=cond_t q2 hp
  refine s2 ?_
  refine L_build (xs:=[]) (cs:=[.int .i64 0,.int .i64 0,(TL.hdr (TL.nil T_Inst 0)),(TL.hdr (TL.nil T_Lead 0))]) rfl rfl bld27.h rfl ?_
  replace hp:=ba hp;obtain ⟨y4,hy4,hp⟩:=hp
  refine L_mk0R T_EMsg rfl el38.h (fun X3 hdX3 hzX3=>?_)
  obtain rfl:GT.dat X3=y4:=hdX3.trans (Option.some.inj hy4)
  clear hy4 hdX3
  refine s4 ?_
  obtain rfl:=sj hp
  refine W_conv (M':=treeH (TL.nil T_Inst 0)::_) (fun w h=>addNilT (τ:=T_Inst) 0 h) ?_
  refine W_conv (M':=treeH (TL.nil T_Lead 0)::_) (fun w h=>addNilT (τ:=T_Lead) 0 h) ?_
  refine jW ((0,0,(TL.nil T_Inst 0),(TL.nil T_Lead 0)):T_ENode) ?_
  refine s1 ?_
  refine res3 rfl (ResOK.cell rfl mm (by exact agg27.h)) (ResOK.tmp rfl) (ResOK.tmp rfl) ⟨(0,0,(TL.nil T_Inst 0),(TL.nil T_Lead 0)),X3,false,rfl,rfl,rfl⟩ ms
 ·replace hp:=cond_f q2 hp
  refine s4 ?_
  replace hp:=ba hp;obtain ⟨y5,hy5,hp⟩:=hp
  refine L_callR rfl fn46.h rfl (by exact fun w hw=>s_l9Copy_walk w (a0_1,a0_2,a0_3,a0_4) (RdT.now (RdT.pair RdT.int (RdT.pair RdT.int (RdT.pair (RdT.old h0.2.2.1) (RdT.old h0.2.2.2)))) hw) _ hy5) ?_
  rintro _ _ ⟨⟨y5x0_1,y5x0_2,y5x0_3,y5x0_4⟩,rfl,rfl,rfl⟩
  refine sc ?_
  replace hp:=dd hp
  refine xL ((y5x0_1,y5x0_2,y5x0_3,y5x0_4):T_ENode) ?_
  refine al fun bk7=>?_
  refine s6 ?_
  replace hp:=ba hp;obtain ⟨y6,hy6,hp⟩:=hp
  refine L_callX rfl fn54.h rfl (by exact fun w hw=>s_l9At_walk w (y5x0_1,y5x0_2,y5x0_3,y5x0_4) (a1_1,a1_2) (RdT.now (RdT.pair RdT.int (RdT.pair RdT.int (RdT.pair (RdT.tree mm) (RdT.tree mm)))) hw) (RdT.now (RdT.pair RdT.int RdT.int) hw) _ hy6) ?_
  refine s4 ?_
  replace hp:=idx_gb hp;obtain ⟨⟨⟨u7_1,u7_2⟩,u7_3,u7_4,u7_5,u7_6,u7_7,u7_8⟩,hy7,hp⟩:=hp
  replace hp:=idx_gb hp;obtain ⟨⟨⟨u8_1,u8_2⟩,u8_3,u8_4,u8_5,u8_6,u8_7,u8_8⟩,hy8,hp⟩:=hp
  refine W_D0 [41] mix (by kernel_rfl) rfl ?_
  refine s6 ?_
  refine D_idxA (X:=y5x0_4) (GC.some rfl rfl) (OpV.s rfl) (OpV.s rfl) el25.h (RdT.tree mm) (fun hg=>hy7 (gnot hg.2)) ?_
  refine s1 ?_
  refine D_load (GC.some rfl rfl) (OpV.s rfl) (fun hg=>RdT.at (RdT.tree mm) (hy7 (gnot hg.2)).2) one3.h rfl ?_
  refine s6 ?_
  refine D_idxA (X:=y5x0_4) (GC.some rfl rfl) (OpV.s rfl) (OpV.s rfl) el25.h (RdT.tree mm) (fun hg=>hy8 (gnot hg.2)) ?_
  refine s1 ?_
  refine D_load (GC.some rfl rfl) (OpV.s rfl) (fun hg=>RdT.at (RdT.tree mm) (hy8 (gnot hg.2)).2) one87.h rfl ?_
  refine D_lenP (X:=u8_7) (GC.some rfl rfl) (OpV.s rfl) el87.h ?_
  refine s20 ?_
  refine s5 ?_
  refine kp [4,7,8,41] ?_
  refine W_cond rfl (fun q9=>?_) (fun q9=>?_)
  ·replace hp:=cond_t q9 hp
   refine s3 ?_
   replace hp:=ba hp;obtain ⟨y11,hy11,hp⟩:=hp
   refine L_mk0R T_EMsg rfl el38.h (fun X10 hdX10 hzX10=>?_)
   obtain rfl:GT.dat X10=y11:=hdX10.trans (Option.some.inj hy11)
   clear hy11 hdX10
   refine s4 ?_
   obtain rfl:=sj hp
   refine jW ((y5x0_1,y5x0_2,y5x0_3,y5x0_4):T_ENode) ?_
   refine s1 ?_
   refine res3 rfl (ResOK.cell rfl mm (by exact agg27.h)) (ResOK.tmp rfl) (ResOK.tmp rfl) ⟨(y5x0_1,y5x0_2,y5x0_3,y5x0_4),X10,false,rfl,rfl,rfl⟩ ms
  ·replace hp:=cond_f q9 hp
   refine s2 ?_
   refine W_conv (M':=rowH y5x0_4::elsT y5x0_4.els::_) (fun w h=>row_open pk h) ?_
   refine W_AQ [] 6 10 9 [.int .i64 0,.int .i64 0,.slice none 0 0,.slice none 0 0] 27 12 mix rfl ?_
   refine AQ_A [blk bk7 [.int .i64 y5x0_1,.int .i64 y5x0_2,(TL.hdr y5x0_3),(TL.hdr y5x0_4)] 27] trivial ?_
   refine AQ_take 0 [] rfl (PU_loadW rfl rfl (RdC.blk mm) (by exact agg27.h)) (by kernel_rfl) (by kernel_rfl) (by kernel_rfl) (by kernel_rfl) (by kernel_rfl) rfl rfl rfl (by kernel_rfl) rfl (by kernel_rfl) (by kernel_rfl) ⟨mm,trivial⟩ ?_
   refine AQ_take 1 [5,4,2] rfl (PU_fieldAddr rfl rfl fld27_3.h) (by kernel_rfl) (by kernel_rfl) (by kernel_rfl) (by kernel_rfl) (by kernel_rfl) rfl rfl rfl (by kernel_rfl) rfl (by kernel_rfl) (by kernel_rfl) ⟨mm,trivial⟩ ?_
   refine AQ_take 2 [5,4] rfl (PU_load rfl rfl (RdC.blk mm) one25.h rfl) (by kernel_rfl) (by kernel_rfl) (by kernel_rfl) (by kernel_rfl) (by kernel_rfl) rfl rfl rfl (by kernel_rfl) rfl (by kernel_rfl) (by kernel_rfl) ⟨mm,trivial⟩ ?_
   refine AQ_take 3 [5,4] rfl (PU_move rfl rfl) (by kernel_rfl) (by kernel_rfl) (by kernel_rfl) (by kernel_rfl) (by kernel_rfl) rfl rfl rfl (by kernel_rfl) rfl (by kernel_rfl) (by kernel_rfl) ⟨mm,trivial⟩ ?_
   refine AQ_A [rowH y5x0_4,elsT y5x0_4.els,blk bk7 [.int .i64 y5x0_1,.int .i64 y5x0_2,(TL.hdr y5x0_3),(TL.hdr y5x0_4)] 27] ⟨mm,trivial⟩ ?_
   replace hp:=idx_bind hp;obtain ⟨⟨⟨u12_1,u12_2⟩,u12_3,u12_4,u12_5,u12_6,u12_7,u12_8⟩,hy12,hp⟩:=hp
   refine AQ_take 4 [5] rfl (PU_idxA (X:=y5x0_4) rfl rfl rfl el25.h (RdT.rowE mm (RdT.els mm)) hy12) (by kernel_rfl) (by kernel_rfl) (by kernel_rfl) (by kernel_rfl) (by kernel_rfl) rfl rfl rfl (by kernel_rfl) rfl (by kernel_rfl) (by kernel_rfl) ⟨mm,⟨mm,⟨mm,trivial⟩⟩⟩ ?_
   refine AQ_take 5 [] rfl (PU_loadW rfl rfl (RdT.at (RdT.rowE mm (RdT.els mm)) (hy12).2) (by exact agg89.h)) (by kernel_rfl) (by kernel_rfl) (by kernel_rfl) (by kernel_rfl) (by kernel_rfl) rfl rfl rfl (by kernel_rfl) rfl (by kernel_rfl) (by kernel_rfl) ⟨mm,⟨mm,⟨mm,trivial⟩⟩⟩ ?_
   refine AQ_last 6 rfl rfl (by first | exact .inl (by kernel_rfl) | exact .inr (by kernel_rfl)) (by kernel_rfl) rfl rfl rfl rfl rfl (fun l M=>L_alloc rfl zero27.h (fun b=>L_nil ⟨b,rfl,rfl⟩)) ⟨mm,⟨mm,⟨mm,trivial⟩⟩⟩ (by kernel_rfl) (fun fr13=>?_)
   replace hp:=ba hp;obtain ⟨y14,hy14,hp⟩:=hp
   refine L_callM [rowH y5x0_4] _ rfl fn94.h rfl pc (by exact fun w hw=>s_l9Accept_walk w (y5x0_1,y5x0_2,y5x0_3,y5x0_4) ((u12_1,u12_2),u12_3,u12_4,u12_5,u12_6,u12_7,u12_8) ((RdX.pair (RdX.pair RdX.int RdX.int) (RdX.pair RdX.int (RdX.pair RdX.int (RdX.pair RdX.int (RdX.pair (RdX.fst (RdX.snd (RdX.snd (RdX.snd (RdX.snd (RdX.elOf (X:=y5x0_4) (RdX.els mm) (hy12).2)))))) (RdX.pair (RdX.fst (RdX.snd (RdX.snd (RdX.snd (RdX.snd (RdX.snd (RdX.elOf (X:=y5x0_4) (RdX.els mm) (hy12).2))))))) RdX.bool)))))) w hw) ((RdX.tree mm) w hw) ((RdX.els mm) w hw) _ hy14) ?_
   rintro _ _ ⟨⟨y14x0_1,y14x0_2,y14x0_3,y14x0_4⟩,y14x1,By14,rfl,rfl,rfl⟩
   refine sc ?_
   replace hp:=dd hp
   refine L_nil ⟨_,pk,rfl,?_⟩
   refine AP_take 7 rfl (PU_move rfl rfl) (by kernel_rfl) (by kernel_rfl) (by kernel_rfl) (by kernel_rfl) (by kernel_rfl) rfl rfl rfl trivial ?_
   refine AP_take 8 rfl (PU_extract rfl rfl rfl) (by kernel_rfl) (by kernel_rfl) (by kernel_rfl) (by kernel_rfl) (by kernel_rfl) rfl rfl rfl trivial ?_
   refine AP_take 9 rfl (PU_extract rfl rfl rfl) (by kernel_rfl) (by kernel_rfl) (by kernel_rfl) (by kernel_rfl) (by kernel_rfl) rfl rfl rfl trivial ?_
   refine AP_end (by kernel_rfl) rfl rfl (fun l M=>L_alloc rfl zero27.h (fun b=>L_nil ⟨b,rfl,rfl⟩)) trivial (fun bk9=>?_)
   refine AH_one 11 rfl rfl (by kernel_rfl) ?_
   refine s1 ?_
   refine L_nil ⟨trivial,?_⟩
   refine AH_one 12 rfl rfl (by kernel_rfl) ?_
   refine s1 ?_
   refine L_nil ⟨trivial,?_⟩
   refine AH_done (by kernel_rfl) ?_
   refine s3 ?_
   replace hp:=ba hp;obtain ⟨y15,hy15,hp⟩:=hp
   refine L_callR rfl fn46.h rfl (by exact fun w hw=>s_l9Copy_walk w (y14x0_1,y14x0_2,y14x0_3,y14x0_4) (RdT.now (RdT.pair RdT.int (RdT.pair RdT.int (RdT.pair (RdT.fst (RdT.frz (B:=By14.l) (a:=(y5x0_3,((EL.mk y5x0_4.els),(((u12_1,u12_2),u12_3,u12_4,u12_5,u12_6,u12_7,u12_8):T_Lead)))) (t:=(y14x0_3,(EL.mk y14x0_4.els))) mm (RdT.pair (RdT.tree mm) (RdT.pair (RdT.els mm) (RdT.pair (RdT.pair RdT.int RdT.int) (RdT.pair RdT.int (RdT.pair RdT.int (RdT.pair RdT.int (RdT.pair (RdT.fst (RdT.snd (RdT.snd (RdT.snd (RdT.snd (RdT.elOf (X:=y5x0_4) (RdT.els mm) (hy12).2)))))) (RdT.pair (RdT.fst (RdT.snd (RdT.snd (RdT.snd (RdT.snd (RdT.snd (RdT.elOf (X:=y5x0_4) (RdT.els mm) (hy12).2))))))) RdT.bool)))))))))) (RdT.rowE mm (RdT.snd (RdT.frz (B:=By14.l) (a:=(y5x0_3,((EL.mk y5x0_4.els),(((u12_1,u12_2),u12_3,u12_4,u12_5,u12_6,u12_7,u12_8):T_Lead)))) (t:=(y14x0_3,(EL.mk y14x0_4.els))) mm (RdT.pair (RdT.tree mm) (RdT.pair (RdT.els mm) (RdT.pair (RdT.pair RdT.int RdT.int) (RdT.pair RdT.int (RdT.pair RdT.int (RdT.pair RdT.int (RdT.pair (RdT.fst (RdT.snd (RdT.snd (RdT.snd (RdT.snd (RdT.elOf (X:=y5x0_4) (RdT.els mm) (hy12).2)))))) (RdT.pair (RdT.fst (RdT.snd (RdT.snd (RdT.snd (RdT.snd (RdT.snd (RdT.elOf (X:=y5x0_4) (RdT.els mm) (hy12).2))))))) RdT.bool)))))))))))))) hw) _ hy15) ?_
   rintro _ _ ⟨⟨y15x0_1,y15x0_2,y15x0_3,y15x0_4⟩,rfl,rfl,rfl⟩
   refine sc ?_
   replace hp:=dd hp
   refine xL ((y15x0_1,y15x0_2,y15x0_3,y15x0_4):T_ENode) ?_
   refine s5 ?_
   obtain rfl:=sj hp
   refine jW ((y15x0_1,y15x0_2,y15x0_3,y15x0_4):T_ENode) ?_
   refine s1 ?_
   refine res3 rfl (ResOK.cell rfl mm (by exact agg27.h)) (ResOK.tmp rfl) (ResOK.tmp rfl) ⟨(y15x0_1,y15x0_2,y15x0_3,y15x0_4),y14x1,true,rfl,rfl,rfl⟩ ms
end Go.Proofs.SL
namespace Go.Proofs.SL
open Go
set_option maxHeartbeats 2000000
instance fld35_10:FldF Tryz.prog 35 10 18:=⟨by kernel_rfl⟩
instance fld89_6:FldF Tryz.prog 89 6 7:=⟨by kernel_rfl⟩
end Go.Proofs.SL
namespace Go.Proofs.SL
open Go
variable {Γ:Cx} {l:Envl} {M M' M1 M2 F Mr:List HP} {Q:Post} {K:Kont} {w0 w:World} {S0 S:List Nat} {P:Program}
variable {rest:List Oper} {d:Nat} {ty:TypeId} {pos:String} {af:Array Edge}
structure Rw (τ:Type) where
 t:τ
section
variable {τ δ:Type} [GT τ δ]
instance:GT (Rw τ) τ where
 sz:=GT.sz τ
 pos:=GT.pos (τ:=τ)
 cells x:=GT.cells x.t
 len x:=GT.len x.t
 one x v hv:=GT.one x.t v hv
 rd _ _ _:=True
 fp _:=[]
 ow _ _:=True
 dat x:=x.t
 rd_mono h _:=h
 ow_st _ h:=h
 ow_rd h _:=h
instance:FlatT (Rw τ):=⟨fun _=>⟨rfl,fun _=>trivial⟩⟩
def rwT (X:TL τ):TL (Rw τ):=⟨X.a,X.cap,X.e,X.els.map Rw.mk,X.tail⟩
def unT (X:TL (Rw τ)):TL τ:=⟨X.a,X.cap,X.e,X.els.map Rw.t,X.tail⟩
theorem rwT_hdr (X:TL τ):(rwT X).hdr=X.hdr:=by unfold rwT TL.hdr;simp
theorem unT_hdr (X:TL (Rw τ)):(unT X).hdr=X.hdr:=by unfold unT TL.hdr;simp
theorem rwT_dat (X:TL τ):GT.dat (rwT X)=X.els:=by
 show (X.els.map Rw.mk).map (fun x=>x.t)=X.els
 rw [List.map_map];exact List.map_id _
theorem unT_els (X:TL (Rw τ)):(unT X).els=GT.dat X:=rfl
theorem cells_rw (xs:List τ):rowCells (xs.map Rw.mk)=rowCells xs:=by
 unfold rowCells;rw [List.flatMap_map];rfl
theorem cells_un (xs:List (Rw τ)):rowCells (xs.map Rw.t)=rowCells xs:=by
 unfold rowCells;rw [List.flatMap_map];rfl
theorem raw_row {X:TL τ} (p:Pick (rowH X) M M1) (h:Holds w0 S0 M w):Holds w0 S0 (treeH (rwT X)::M1) w:=by
 have h1:=h.perm p.perm
 have hr:=h1.prs (rowH X) (List.mem_cons_self ..)
 refine h1.reFp (List.Perm.of_eq ?_) fun y hy=>?_
 ·simp only [fps_cons]
  show (match X.a with | none=>[] | some a=>[a.block])++fps M1=((match X.a with | none=>[] | some a=>[a.block])++(X.els.map Rw.mk).flatMap (fun _=>[]))++fps M1
  simp
 ·rcases List.mem_cons.1 hy with rfl | hy
  ·refine ⟨by simpa [rwT] using hr.1,hr.2.1,fun _ _=>trivial,fun ha=>⟨by simp [rwT,(hr.2.2.1 ha).1],(hr.2.2.1 ha).2⟩,fun a ha=>?_⟩
   obtain ⟨h1,h2,h3,h4⟩:=hr.2.2.2 a ha
   refine ⟨h1,h2,?_,?_⟩
   ·show w.heap[a.block]?=some (.cells (rowCells (X.els.map Rw.mk)++X.tail).toArray X.e (0,0))
    rw [cells_rw];exact h3
   ·show (X.els.map Rw.mk).length*GT.sz τ+X.tail.length=X.cap*GT.sz τ
    rw [List.length_map];exact h4
  ·exact h1.prs _ (List.mem_cons_of_mem _ hy)
theorem row_raw {X:TL (Rw τ)} (p:Pick (treeH X) M M1) (h:Holds w0 S0 M w):Holds w0 S0 (rowH (unT X)::M1) w:=by
 have h1:=h.perm p.perm
 have hr:GT.ow w X:=h1.prs (treeH X) (List.mem_cons_self ..)
 refine h1.reFp (List.Perm.of_eq ?_) fun y hy=>?_
 ·simp only [fps_cons]
  show ((match X.a with | none=>[] | some a=>[a.block])++X.els.flatMap (fun _=>[]))++fps M1=(match X.a with | none=>[] | some a=>[a.block])++fps M1
  simp
 ·rcases List.mem_cons.1 hy with rfl | hy
  ·refine ⟨by simpa [unT] using hr.1,hr.2.1,fun ha=>⟨by simp [unT,(hr.2.2.2.1 ha).1],(hr.2.2.2.1 ha).2⟩,fun a ha=>?_⟩
   obtain ⟨h1,h2,h3,h4⟩:=hr.2.2.2.2 a ha
   refine ⟨h1,h2,?_,?_⟩
   ·show w.heap[a.block]?=some (.cells (rowCells (X.els.map Rw.t)++X.tail).toArray X.e (0,0))
    rw [cells_un];exact h3
   ·show (X.els.map Rw.t).length*GT.sz τ+X.tail.length=X.cap*GT.sz τ
    rw [List.length_map];exact h4
  ·exact h1.prs _ (List.mem_cons_of_mem _ hy)
theorem perm_filter {α:Type} (p:α→Bool):∀ l:List α,List.Perm l (l.filter (fun x=>!p x)++l.filter p)
 | []=>List.Perm.refl _
 | x::xs=>by
  cases h:p x with
  | true =>
   rw [List.filter_cons_of_neg (by simp [h]),List.filter_cons_of_pos h]
   exact ((perm_filter p xs).cons x).trans List.perm_middle.symm
  | false =>
   rw [List.filter_cons_of_pos (by simp [h]),List.filter_cons_of_neg (by simp [h])]
   exact (perm_filter p xs).cons x
theorem row_filter {xs:List τ} {Y:TL (Rw τ)} (q:τ→Bool) (hY:GT.dat Y=xs.filter (fun x=>!q x)) (p1:Pick (treeH Y) M M1) (p2:Pick (elsT xs) M1 M2) (h:Holds w0 S0 M w) :
  Holds w0 S0 (treeH (unT Y)::elsT (xs.filter q)::M2) w:=by
 have h1:=(row_raw p1 h).perm (p2.perm.cons _)
 have h2:Holds w0 S0 (elsT xs::rowH (unT Y)::M2) w:=h1.perm (List.Perm.swap _ _ _)
 have h3:Holds w0 S0 (elsT (unT Y).els::elsT (xs.filter q)::rowH (unT Y)::M2) w:=by
  rw [unT_els,hY]
  refine h2.reFp ?_ fun y hy=>?_
  ·simp only [fps_cons]
   show List.Perm (xs.flatMap GT.fp++_) ((xs.filter fun x=>!q x).flatMap GT.fp++((xs.filter q).flatMap GT.fp++_))
   rw [← List.append_assoc ((xs.filter fun x=>!q x).flatMap GT.fp),← List.flatMap_append]
   exact ((perm_filter q xs).flatMap_right GT.fp).append_right _
  ·have he:∀ x,x∈xs→GT.ow w x:=h2.prs (elsT xs) (List.mem_cons_self ..)
   rcases List.mem_cons.1 hy with rfl | hy
   ·exact fun x hx=>he x (List.mem_filter.1 hx).1
   rcases List.mem_cons.1 hy with rfl | hy
   ·exact fun x hx=>he x (List.mem_filter.1 hx).1
   ·exact h2.prs _ (List.mem_cons_of_mem _ hy)
 have h4:Holds w0 S0 (rowH (unT Y)::elsT (unT Y).els::elsT (xs.filter q)::M2) w :=
  h3.perm (((List.Perm.swap _ _ _).cons _).trans (List.Perm.swap _ _ _))
 exact row_tree h4
theorem RdT.elMem {xs:List τ} {x:τ} (hx:x∈xs) (h:RdT Γ M (EL.mk xs)):RdT Γ M x:=fun w hw=>h w hw x hx
theorem RdX.elMem {xs:List τ} {x:τ} (hx:x∈xs) (h:RdX Γ M1 M2 (EL.mk xs)):RdX Γ M1 M2 x:=fun w hw=>h w hw x hx
theorem RdP.elMem {xs:List τ} {x:τ} (hx:x∈xs) (h:RdP Mr w S (EL.mk xs)):RdP Mr w S x:=fun hp=>h hp x hx
theorem L_closeE {X:TL τ} {i:Nat} {cs:List Value} {u:τ} (x':τ) {r:List δ} (hu:X.els[i]?=some u) (hc:cs=GT.cells x') (p:Pick (holeH X i cs) M M1) (q:Pick (treeH x') M1 M2) (hr:some ((GT.dat X).set i (GT.dat x'))=some r)
  (hk:∀ X2:TL τ,GT.dat X2=r→X2.hdr=X.hdr→X2.els[i]?=some x'→L Γ rest l (treeH X2::M2) K):L Γ rest l M K :=
 L_conv (fun w h=>hole_close hc p q h) (hk _ (by rw [dat_set];exact Option.some.inj hr) (by show Value.slice X.a (X.els.set i x').length X.cap=Value.slice X.a X.els.length X.cap;rw [List.length_set])
  (by show (X.els.set i x')[i]?=some x';rw [List.getElem?_set_self (List.getElem?_eq_some_iff.1 hu).1]))
end
end Go.Proofs.SL
