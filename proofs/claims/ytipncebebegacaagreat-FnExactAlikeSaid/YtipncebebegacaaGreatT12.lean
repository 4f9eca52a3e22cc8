/- The texts of the proof, part 12: the base, walks of functions, plain Lean. -/
import Derived.Test.YtipncebebegacaaGreatT6
import Derived.Test.YtipncebebegacaaGreatT7
import Derived.Test.YtipncebebegacaaGreatT8
import Derived.Test.YtipncebebegacaaGreatT11
namespace Go.Proofs.SL
open Go
set_option maxHeartbeats 2000000
instance el139:ElF Tryz.prog 139 85 1 24 [.slice none 0 0]:=⟨by kernel_rfl⟩
theorem sl_SortFunc_implIdimplId_walk (w:World) (a0:TL T_Id) (f1:Nat) (cs1:List Value) (a1:D_Id→D_Id→Option Int) (hf1:IsFn Tryz.prog f1) (hk1:∀ (w':World) (F:List HP) (u0 u1:T_Id) (v:Int),Holds w (fps [treeH a0]) F w'→GT.rd w' [] u0→GT.rd w' [] u1→a1 (GT.dat u0) (GT.dat u1)=some v→Spec Tryz.prog f1 ([Value.agg (GT.cells u0).toArray,Value.agg (GT.cells u1).toArray]++cs1).toArray w' [] (IsV (.int .i64 v))) (r:List D_Id) (hp:sortFn (GT.dat a0) a1=some r):Spec Tryz.prog 54 [(TL.hdr a0),.func (.func f1) #[] cs1.toArray].toArray w [treeH a0] (fun v M=>∃ (y0:TL T_Id),v=.tuple #[]∧GT.dat y0=r∧M=[treeH y0]∧y0.hdr=a0.hdr) :=
 Spec.sortN w a0 cs1 a1 r hp (fun w' F x y v hF hv=>hk1 w' F x y v hF (flat_rd x _ _) (flat_rd y _ _) hv)
  (fun b off cap d hO hc hH hb hsz=>Go.Proofs.AnyQ.slices_SortFunc_eq Tryz.laysSF54 2 Tryz.isAgg92 Tryz.sizeOf92 (fun x:T_Id=>GT.cells x) (fun x=>GT.len x) (fun x v hv=>GT.one x v hv) (fun x y:T_Id=>(a1 (GT.dat x) (GT.dat y)).getD 0) hO f1 cs1.toArray b off cap d w hf1.run hc hH hb hsz)
  (fun p cap=>Go.Proofs.AnyF.slices_SortFunc_none Tryz.laysSF54 p cap _ w)
theorem sl_Delete_implIdimplId_walkH (w:World) (a0:TL (TL T_Id)) (u0:(TL T_Id)) (a1 a2:Int) (hu:a0.els[a1.toNat]?=some u0) (h12:a2=IntKind.wrap .i64 (a1+1)) (r:List (List D_Id)) (hp:delP (GT.dat a0) a1 a2=some r):Spec Tryz.prog 157 [(TL.hdr a0),.int .i64 a1,.int .i64 a2].toArray w [holeH a0 a1.toNat (GT.cells u0)] (fun v M=>∃ (x0:TL (TL T_Id)),v=(TL.hdr x0)∧GT.dat x0=r∧M=[treeH x0]):=by
 refine Spec.intro Tryz.func157 rfl Tryz.ntmps157 rfl ?_
 unfold delP at hp
 split at hp
 rotate_left
 ·cases hp
 rename_i hb
 obtain rfl:=sj hp
 obtain ⟨h0,h1,h2⟩:=hb
 rw [dat_els,List.length_map] at h2
 obtain ⟨i,rfl⟩:=Int.eq_ofNat_of_zero_le h0
 obtain ⟨j,rfl⟩:=Int.eq_ofNat_of_zero_le (show 0≤a2 by omega)
 simp only [Int.toNat_natCast] at hu ⊢
 have hij:i < j:=by omega
 have hjl:j≤a0.els.length:=by omega
 refine W_rawH (X:=a0) hu pk (fun fa fl fm ft=>?_)
 have hj1:j=i+1:=by
  rw [wrap64_in (n:=(i:Int)+1) (by unfold inR;unfold maxLen at fm;omega)] at h12
  omega
 have hsz:GT.sz (TL T_Id)=1:=rfl
 rw [hsz] at ft
 have hcl:(rowCells a0.els++a0.tail).length=a0.cap*1:=by rw [List.length_append,length_rowCells,hsz];exact ft
 have hone:∀ u,u∈rowCells a0.els++a0.tail→True:=fun _ _=>trivial
 have hh:a0.hdr=.slice (some ⟨a0.g,0,none⟩) a0.els.length a0.cap:=by show Value.slice a0.a _ _=_;rw [fa]
 rw [hh]
 refine s10 ?_
 refine L_lenS rfl rfl el139.h ?_
 refine L_sl3 rfl rfl rfl rfl rfl el139.h (by omega) (by omega) (by omega) (by omega) (fun _=>?_)
 refine s8 ?_
 refine W_cond rfl (fun hc=>?_) (fun hc=>?_)
 ·exfalso;simp at hc;omega
 refine s4 ?_
 refine L_lenS rfl rfl el139.h ?_
 refine s3 ?_
 refine W_DS (pre:=[_,_,_,_,_,_]) (suf:=[_,_]) [22,25] [] _ pc mix (by kernel_rfl) (by kernel_rfl) rfl ?_
 refine s2 ?_
 refine D_slV (g:=a0.g) (o:=0) (n:=a0.els.length) (c:=a0.cap) (a:=0) (b:=(i:Int)) GC.none (OpV.t rfl) optD.none (optD.some (OpV.t rfl)) el139.h (by omega) (by omega) (by omega) ?_
 refine s2 ?_
 refine D_slV (g:=a0.g) (o:=0) (n:=a0.els.length) (c:=a0.cap) (a:=(j:Int)) (b:=(a0.els.length:Int)) GC.none (OpV.t rfl) (optD.some (OpV.t rfl)) optD.none el139.h (by omega) (by omega) (by omega) ?_
 refine s8 ?_
 simp only [Int.toNat_natCast,Int.toNat_zero,sl0,Nat.sub_zero]
 have hseg:=seg_drop (X:=a0) (j:=j) (sz:=1) rfl hjl fl
 have e1:i*1+(a0.els.length - j)*1≤a0.cap*1:=by rw [← Nat.add_mul];exact Nat.mul_le_mul_right _ (by omega)
 refine L_appRaw (n:=i) (m:=a0.els.length - j) (o:=slA 0 a0.cap j 1) rfl rfl rfl el139.h pk (by omega) (by
  rw [hcl];unfold slA;split
  ·have:a0.els.length - j=0:=by omega
   rw [this];omega
  ·rw [Nat.zero_add,← Nat.add_mul];exact Nat.mul_le_mul_right _ (by omega)) (by rw [hcl];exact e1) (by rw [hseg];exact fun u hu=>rowCells_one _ u hu) ?_
 rw [hseg]
 generalize hcs:(rowCells a0.els++a0.tail).take (i*1)++rowCells (a0.els.drop j)++(rowCells a0.els++a0.tail).drop (i*1+(a0.els.length - j)*1)=cs
 have hcsl:cs.length=a0.cap*1:=by
  rw [← hcs]
  simp only [List.length_append,List.length_take,List.length_drop,length_rowCells,hsz] at hcl ⊢
  omega
 refine s6 ?_
 refine L_lenS rfl rfl el139.h ?_
 refine s1 ?_
 refine L_slV (g:=a0.g) (o:=0) (n:=i+(a0.els.length - j)) (c:=a0.cap) (a:=((i+(a0.els.length - j):Nat):Int)) (b:=(a0.els.length:Int)) rfl rfl rfl rfl el139.h (by omega) (by omega) (by omega) ?_
 simp only [Int.toNat_natCast]
 rw [slLt (show i+(a0.els.length - j) < a0.cap by omega)]
 refine L_clrRaw rfl el139.h rfl (allOne rfl) pk (by rw [hcsl,← Nat.add_mul];exact Nat.mul_le_mul_right _ (by omega)) (by omega) ?_
 rw [del_cells (sz:=1) (List.flatten _) (show GT.sz (TL T_Id)=1 from rfl) rfl hij hjl cs hcs.symm]
 refine s6 ?_
 refine W_conv (fun w h=>els_eq (xs:=a0.els.eraseIdx i) (ys:=a0.els.take i++a0.els.drop j) (by rw [hj1,List.eraseIdx_eq_take_drop_succ]) pk h) ?_
 have hle:(a0.els.take i++a0.els.drop j).length=i+(a0.els.length - j):=by
  rw [List.length_append,List.length_take,List.length_drop,Nat.min_eq_left (by omega)]
 have htl:((List.replicate (a0.els.length - (i+(a0.els.length - j))) ([.slice none 0 0]:List Value)).flatten++a0.tail).length=(a0.els.length - (i+(a0.els.length - j)))*1+a0.tail.length:=by
  simp
 refine W_conv (fun w h=>raw_close (τ:=(TL T_Id)) (g:=a0.g) (e:=a0.e) (cap:=a0.cap) (els:=a0.els.take i++a0.els.drop j) (tail:=(List.replicate (a0.els.length - (i+(a0.els.length - j))) ([.slice none 0 0]:List Value)).flatten++a0.tail) rfl (by rw [hle];omega) fm (by
  rw [hle,htl,hsz]
  have h3:(i+(a0.els.length - j))*1+(a0.els.length - (i+(a0.els.length - j)))*1=a0.els.length*1:=by rw [← Nat.add_mul];congr 1;omega
  omega) pk pk h) ?_
 refine s1 ?_
 refine res1 rfl (ResOK.tmp rfl) ⟨⟨some ⟨a0.g,0,none⟩,a0.cap,a0.e,a0.els.take i++a0.els.drop j,(List.replicate (a0.els.length - (i+(a0.els.length - j))) ([.slice none 0 0]:List Value)).flatten++a0.tail⟩,?_,?_,rfl⟩ ms
 ·show Value.slice _ _ _=Value.slice _ _ _
  rw [hle]
 ·rw [dat_els,dat_els]
  simp [List.map_take,List.map_drop]
end Go.Proofs.SL
namespace Go.Proofs.SL
open Go
set_option maxHeartbeats 2000000
instance fn77:FnF Tryz.prog 77:=⟨_,Tryz.func77,by kernel_rfl,rfl⟩
instance fn54:FnF Tryz.prog 54:=⟨_,Tryz.func54,by kernel_rfl,rfl⟩
instance fn211:FnF Tryz.prog 211:=⟨_,Tryz.func211,by kernel_rfl,rfl⟩
instance fn212:FnF Tryz.prog 212:=⟨_,Tryz.func212,by kernel_rfl,rfl⟩
instance fn154:FnF Tryz.prog 154:=⟨_,Tryz.func154,by kernel_rfl,rfl⟩
instance fn156:FnF Tryz.prog 156:=⟨_,Tryz.func156,by kernel_rfl,rfl⟩
instance fn150:FnF Tryz.prog 150:=⟨_,Tryz.func150,by kernel_rfl,rfl⟩
instance fn149:FnF Tryz.prog 149:=⟨_,Tryz.func149,by kernel_rfl,rfl⟩
instance fn152:FnF Tryz.prog 152:=⟨_,Tryz.func152,by kernel_rfl,rfl⟩
instance fn153:FnF Tryz.prog 153:=⟨_,Tryz.func153,by kernel_rfl,rfl⟩
instance zero85:ZerF Tryz.prog 85 [.slice none 0 0]:=⟨by kernel_rfl⟩
instance fn155:FnF Tryz.prog 155:=⟨_,Tryz.func155,by kernel_rfl,rfl⟩
instance fn157:FnF Tryz.prog 157:=⟨_,Tryz.func157,by kernel_rfl,rfl⟩
instance fn99:FnF Tryz.prog 99:=⟨_,Tryz.func99,by kernel_rfl,rfl⟩
noncomputable def i_Reach (a0:List D_Inst) (a1:D_Id):Option (List D_Id) :=
 Option.bind (i_InstsOk a0) (fun y1=>cond (!y1) (some ([]:List D_Id)) (Option.bind (some ([]:List D_Id)) (fun y4=>Option.bind (some ([(a1.1,a1.2)]:List D_Id)) (fun y5=>whileP (fun s7:(List D_Id)×(List D_Id)=>cond (decide (0 < (s7.2.length:Int))) (Option.bind (idx s7.2 0) (fun y9=>Option.bind (i_InstAt a0 (y9.1,y9.2)) (fun y10=>Option.bind (slcP s7.2 1 (s7.2.length:Int)) (fun y11=>cond (!decide (y10.2.2.2.1=3)) (some (.inl ((s7.1,y11)))) (whileP (fun s14:(List D_Id)×(List D_Id)×Int=>cond (decide (s14.2.2 < (y10.2.2.2.2.2.2.1.length:Int))) (Option.bind (idx y10.2.2.2.2.2.2.1 s14.2.2) (fun y16=>Option.bind (sl_Contains_implIdimplId s14.1 (y16.1,y16.2)) (fun y17=>cond (!y17) (Option.bind (appP s14.1 [(y16.1,y16.2)]) (fun y20=>Option.bind (appP s14.2.1 [(y16.1,y16.2)]) (fun y22=>some (.inl ((y20,y22,IntKind.wrap .i64 (s14.2.2+1))))))) (some (.inl ((s14.1,s14.2.1,IntKind.wrap .i64 (s14.2.2+1)))))))) (Option.map .inr (some (.inl ((s14.1,s14.2.1)))))) (s7.1,y11,0)))))) (Option.map .inr (Option.bind (sortFn s7.1 (fun z0 z1=>i_compareIds z0 z1 )) (fun y25=>some y25)))) (y4,y5)))))
theorem i_Reach_walk (w:World) (a0:TL T_Inst) (a1:T_Id) (h0:GT.rd w [] a0) (h1:GT.rd w [] a1) (r:(List D_Id)) (hp:i_Reach (GT.dat a0) (GT.dat a1)=some r):Spec Tryz.prog 211 [(TL.hdr a0),.agg (GT.cells a1).toArray].toArray w [] (fun v M=>∃ (x0:TL T_Id),v=(TL.hdr x0)∧GT.dat x0=r∧M=[treeH x0]):=by
 obtain ⟨a1_1,a1_2⟩:=a1
 change Spec _ _ ([(TL.hdr a0),Value.agg #[.int .i64 a1_1,.int .i64 a1_2]]:List Value).toArray w [] _
 refine Spec.intro Tryz.func211 rfl Tryz.ntmps211 rfl ?_
 unfold i_Reach at hp
 replace hp:=dd hp
 refine s2 ?_
 refine bx fun bk3=>?_
 refine L_assign (v:=(TL.hdr (TL.nil T_Id 0))) rfl rfl ?_
 refine s5 ?_
 replace hp:=ba hp;obtain ⟨y1,hy1,hp⟩:=hp
 refine L_callX rfl fn73.h rfl (by exact fun w hw=>i_InstsOk_walk w a0 (RdT.now (RdT.old h0) hw) _ hy1) ?_
 refine s2 ?_
 refine kp [0,3,12] ?_
 refine W_cond rfl (fun q2=>?_) (fun q2=>?_)
 ·replace hp:=cond_t q2 hp
  refine s2 ?_
  refine L_assign (v:=(TL.hdr (TL.nil T_Id 0))) rfl rfl ?_
  refine s1 ?_
  obtain rfl:=sj hp
  refine W_conv (M':=treeH (TL.nil T_Id 0)::_) (fun w h=>addNilT (τ:=T_Id) 0 h) ?_
  refine s1 ?_
  refine res1 rfl (ResOK.tmp rfl) ⟨(TL.nil T_Id 0),rfl,rfl,rfl⟩ ms
 ·replace hp:=cond_f q2 hp
  refine s3 ?_
  replace hp:=ba hp;obtain ⟨y4,hy4,hp⟩:=hp
  refine L_mk0 T_Id rfl el85.h (fun X3 hdX3=>?_)
  obtain rfl:GT.dat X3=y4:=hdX3.trans (Option.some.inj hy4)
  clear hy4 hdX3
  refine s5 ?_
  replace hp:=ba hp;obtain ⟨y5,hy5,hp⟩:=hp
  refine L_bsN ([(a1_1,a1_2)]:List T_Id) (xs:=[(0,.tmp 14)]) rfl rfl el85.h rfl rfl rfl rfl rfl rfl rfl hy5 (fun X6 hdX6=>?_)
  subst hdX6
  refine s4 ?_
  refine W_conv (M':=flH X6::_) (fun w h=>fl_of_tree pk h) ?_
  refine W_while (σ:=(TL T_Id)×(TL T_Id)) GT.dat (fun ((v7_0,v7_1):(TL T_Id)×(TL T_Id))=>[(5,(TL.hdr v7_0)),(6,(TL.hdr v7_1))]) (fun ((v7_0,v7_1):(TL T_Id)×(TL T_Id))=>[treeH v7_0,flH v7_1]) [(0,_)] [] (X3,X6) hp sb ms ?_
  clear hp
  rintro ⟨v7_0,v7_1⟩ x7 hp hx7
  replace hp:=dd hp
  refine kq [0,5,6] ?_
  refine s7 ?_
  refine kp [0,5,6,18] ?_
  refine W_cond rfl (fun q8=>?_) (fun q8=>?_)
  ·replace hp:=cond_t q8 hp
   refine s6 ?_
   replace hp:=idx_bind hp;obtain ⟨⟨u9_1,u9_2⟩,hy9,hp⟩:=hp
   refine L_idxA (X:=v7_1) rfl rfl rfl el85.h (RdT.fl mm) hy9 ?_
   refine L_loadW rfl rfl (RdT.at (RdT.fl mm) (hy9).2) (by exact agg92.h) ?_
   replace hp:=ba hp;obtain ⟨y10,hy10,hp⟩:=hp
   refine L_callR rfl fn77.h rfl (by exact fun w hw=>i_InstAt_walk w a0 (u9_1,u9_2) (RdT.now (RdT.old h0) hw) (RdT.now (RdT.pair RdT.int RdT.int) hw) _ hy10) ?_
   rintro _ _ ⟨⟨⟨y10x0_1,y10x0_2⟩,y10x0_3,y10x0_4,y10x0_5,⟨y10x0_6,y10x0_7,y10x0_8,y10x0_9,y10x0_10,y10x0_11,y10x0_12,y10x0_13⟩,y10x0_14,y10x0_15,y10x0_16⟩,rfl,rfl,rfl⟩
   refine sc ?_
   replace hp:=dd hp
   refine xL (((y10x0_1,y10x0_2),y10x0_3,y10x0_4,y10x0_5,(y10x0_6,y10x0_7,y10x0_8,y10x0_9,y10x0_10,y10x0_11,y10x0_12,y10x0_13),y10x0_14,y10x0_15,y10x0_16):T_Inst) ?_
   refine al fun bk7=>?_
   refine s5 ?_
   replace hp:=ba hp;obtain ⟨y11,hy11,hp⟩:=hp
   refine L_slcE (X:=v7_1) rfl rfl rfl rfl el85.h rfl (RdT.fl mm) hy11 (fun X12 hdX12 heX12=>?_)
   have hsX12:=hy11
   subst hdX12
   refine s9 ?_
   refine kp [0,5,6,7,28] ?_
   refine W_cond rfl (fun q13=>?_) (fun q13=>?_)
   ·replace hp:=cond_t q13 hp
    refine W_exit ?_
    exact ⟨(v7_0,X12),sb,⟨_,fun w h=>(fl_slc heX12 hsX12 pk h),ms⟩,some_eq hp⟩
   ·replace hp:=cond_f q13 hp
    refine s9 ?_
    refine W_conv (M':=flH X12::_) (fun w h=>fl_slc heX12 hsX12 pk h) ?_
    refine W_while (σ:=(TL T_Id)×(TL T_Id)×Int) GT.dat (fun ((v14_0,v14_1,v14_2):(TL T_Id)×(TL T_Id)×Int)=>[(5,(TL.hdr v14_0)),(6,(TL.hdr v14_1)),(32,.int .i64 v14_2)]) (fun ((v14_0,v14_1,v14_2):(TL T_Id)×(TL T_Id)×Int)=>[treeH v14_0,flH v14_1]) [(0,_),(30,_),(31,_)] [treeH y10x0_15] (v7_0,X12,0) hp sb ms ?_
    clear hp
    rintro ⟨v14_0,v14_1,v14_2⟩ x14 hp hx14
    replace hp:=dd hp
    refine kq [0,5,6,30,31,32] ?_
    refine s5 ?_
    refine kp [0,5,6,30,31,32,33] ?_
    refine W_cond rfl (fun q15=>?_) (fun q15=>?_)
    ·replace hp:=cond_t q15 hp
     refine s5 ?_
     replace hp:=idx_bind hp;obtain ⟨⟨u16_1,u16_2⟩,hy16,hp⟩:=hp
     refine L_idxA (X:=y10x0_15) rfl rfl rfl el85.h (RdT.tree mm) hy16 ?_
     refine L_loadW rfl rfl (RdT.at (RdT.tree mm) (hy16).2) (by exact agg92.h) ?_
     refine al fun bk9=>?_
     refine s6 ?_
     replace hp:=ba hp;obtain ⟨y17,hy17,hp⟩:=hp
     refine L_callX rfl fn151.h rfl (by exact fun w hw=>sl_Contains_implIdimplId_walk w v14_0 (u16_1,u16_2) (RdT.now (RdT.tree mm) hw) (RdT.now (RdT.pair RdT.int RdT.int) hw) _ hy17) ?_
     refine s2 ?_
     refine kp [0,5,6,9,30,31,32,39] ?_
     refine W_cond rfl (fun q18=>?_) (fun q18=>?_)
     ·replace hp:=cond_t q18 hp
      refine s4 ?_
      refine L_buildSlice1 rfl rfl el85.h rfl (by decide) (by decide) rfl (fun bb42=>?_)
      replace hp:=ba hp;obtain ⟨y20,hy20,hp⟩:=hp
      refine L_app1F (X:=v14_0) ((u16_1,u16_2):T_Id) rfl rfl rfl el85.h rfl rfl pk mm  hy20 (by decide) (fun X19 hdX19=>?_)
      subst hdX19
      refine s5 ?_
      refine L_buildSlice1 rfl rfl el85.h rfl (by decide) (by decide) rfl (fun bb46=>?_)
      replace hp:=ba hp;obtain ⟨y22,hy22,hp⟩:=hp
      refine L_appV1 (X:=v14_1) ((u16_1,u16_2):T_Id) rfl rfl rfl el85.h rfl rfl pk mm hy22 (by decide) (fun X21 hdX21=>?_)
      subst hdX21
      refine s6 ?_
      exact ⟨(X19,X21,IntKind.wrap .i64 (v14_2+1)),sb,(.sub ms),some_eq hp⟩
     ·replace hp:=cond_f q18 hp
      refine s5 ?_
      exact ⟨(v14_0,v14_1,IntKind.wrap .i64 (v14_2+1)),sb,(.sub ms),some_eq hp⟩
    ·replace hp:=cond_f q15 hp
     refine W_exit ?_
     replace hp:=map_any hp;obtain ⟨a23,hp,z_23⟩:=hp
     obtain rfl:=hx14 _ z_23
     exact ⟨(v14_0,v14_1),sb,(.sub ms),some_eq hp⟩
  ·replace hp:=cond_f q8 hp
   refine W_exit ?_
   replace hp:=map_any hp;obtain ⟨a24,hp,z_24⟩:=hp
   obtain rfl:=hx7 _ z_24
   refine s3 ?_
   replace hp:=ba hp;obtain ⟨y25,hy25,hp⟩:=hp
   refine L_callM [treeH v7_0] _ rfl fn54.h rfl pc (by exact fun w hw=>sl_SortFunc_implIdimplId_walk w v7_0 55 [] (fun z0 z1=>i_compareIds z0 z1 ) fn55.h (fun w' F u0 u1 v hF hu0 hu1 hv=>i_compareIds_walk w' u0 u1 hu0 hu1 v hv) _ hy25) ?_
   rintro _ _ ⟨y25y0,rfl,rfl,rfl,hey25_0⟩
   try rw [← hey25_0]
   refine sc ?_
   replace hp:=dd hp
   refine s6 ?_
   obtain rfl:=sj hp
   refine s1 ?_
   refine res1 rfl (ResOK.tmp rfl) ⟨y25y0,rfl,rfl,rfl⟩ ms
noncomputable def i_Ready (a0:List D_Inst) (a1:D_Id):Option Bool :=
 Option.bind (i_InstsOk a0) (fun y1=>cond (!y1) (some false) (Option.bind (i_Reach a0 (a1.1,a1.2)) (fun y3=>Option.bind (appP y3 [(a1.1,a1.2)]) (fun y4=>whileP (fun s6:Int=>cond (decide (s6 < (y4.length:Int))) (Option.bind (idx y4 s6) (fun y8=>Option.bind (i_InstAt a0 (y8.1,y8.2)) (fun y9=>cond (!decide (y9.2.2.2.1=3)) (Option.map .inr (some false)) (some (.inl (IntKind.wrap .i64 (s6+1))))))) (Option.map .inr (some true))) 0))))
theorem i_Ready_walk (w:World) (a0:TL T_Inst) (a1:T_Id) (h0:GT.rd w [] a0) (h1:GT.rd w [] a1) (r:Bool) (hp:i_Ready (GT.dat a0) (GT.dat a1)=some r):Spec Tryz.prog 152 [(TL.hdr a0),.agg (GT.cells a1).toArray].toArray w [] (IsV (.bool r)):=by
 obtain ⟨a1_1,a1_2⟩:=a1
 change Spec _ _ ([(TL.hdr a0),Value.agg #[.int .i64 a1_1,.int .i64 a1_2]]:List Value).toArray w [] _
 refine Spec.intro Tryz.func152 rfl Tryz.ntmps152 rfl ?_
 unfold i_Ready at hp
 replace hp:=dd hp
 refine s2 ?_
 refine bx fun bk3=>?_
 refine s6 ?_
 replace hp:=ba hp;obtain ⟨y1,hy1,hp⟩:=hp
 refine L_callX rfl fn73.h rfl (by exact fun w hw=>i_InstsOk_walk w a0 (RdT.now (RdT.old h0) hw) _ hy1) ?_
 refine s2 ?_
 refine kp [0,3,9] ?_
 refine W_cond rfl (fun q2=>?_) (fun q2=>?_)
 ·replace hp:=cond_t q2 hp
  refine s4 ?_
  obtain rfl:=sj hp
  refine s1 ?_
  refine res1 rfl (ResOK.tmp rfl) ⟨rfl,rfl⟩ ms
 ·replace hp:=cond_f q2 hp
  refine s3 ?_
  replace hp:=ba hp;obtain ⟨y3,hy3,hp⟩:=hp
  replace hp:=ba hp;obtain ⟨y4,hy4,hp⟩:=hp
  refine W_D0 [15,16,17] mix (by kernel_rfl) rfl ?_
  refine s2 ?_
  refine D_call1R (fun v M=>∃ (x0:TL T_Id),v=(TL.hdr x0)∧GT.dat x0=y3∧M=[treeH x0]) fn211.h (OpVs.cons (OpV.t rfl) (OpVs.cons (OpV.t rfl) (OpVs.nil))) (by exact fun w F hF hM=>i_Reach_walk w a0 (a1_1,a1_2) (RdT.nowS (RdT.old h0) hF hM) (RdT.nowS (RdT.pair RdT.int RdT.int) hF hM) _ hy3) ?_
  refine s1 ?_
  refine D_bs1 (OpV.t rfl) el85.h rfl (by decide) (by decide) rfl ?_
  refine D_app1OO (t1:=12) (t2:=14) ((a1_1,a1_2):T_Id) (ra:=y3) rfl rfl el85.h rfl rfl hy4 (by decide) (by kernel_rfl) ?_
  refine D_lenO (τ:=T_Id) (t:=15) (r:=y4) rfl GC.none el85.h ?_
  refine s4 ?_
  refine Give_R rfl rfl ?_
  rintro _ _ ⟨X5,rfl,rfl,rfl⟩
  simp only [List.cons_append,List.nil_append]
  refine s7 ?_
  refine W_while (σ:=Int) GT.dat (fun (v6_0:Int)=>[(17,.int .i64 v6_0)]) (fun (v6_0:Int)=>[]) [(0,_),(15,_),(16,_)] [treeH X5] 0 hp sb ms ?_
  clear hp
  rintro v6_0 x6 hp hx6
  replace hp:=dd hp
  refine kq [0,15,16,17] ?_
  refine s5 ?_
  refine kp [0,15,16,17,18] ?_
  refine W_cond rfl (fun q7=>?_) (fun q7=>?_)
  ·replace hp:=cond_t q7 hp
   refine s5 ?_
   replace hp:=idx_bind hp;obtain ⟨⟨u8_1,u8_2⟩,hy8,hp⟩:=hp
   refine L_idxA (X:=X5) rfl rfl rfl el85.h (RdT.tree mm) hy8 ?_
   refine L_loadW rfl rfl (RdT.at (RdT.tree mm) (hy8).2) (by exact agg92.h) ?_
   refine al fun bk6=>?_
   refine s6 ?_
   replace hp:=ba hp;obtain ⟨y9,hy9,hp⟩:=hp
   refine L_callR rfl fn77.h rfl (by exact fun w hw=>i_InstAt_walk w a0 (u8_1,u8_2) (RdT.now (RdT.old h0) hw) (RdT.now (RdT.pair RdT.int RdT.int) hw) _ hy9) ?_
   rintro _ _ ⟨⟨⟨y9x0_1,y9x0_2⟩,y9x0_3,y9x0_4,y9x0_5,⟨y9x0_6,y9x0_7,y9x0_8,y9x0_9,y9x0_10,y9x0_11,y9x0_12,y9x0_13⟩,y9x0_14,y9x0_15,y9x0_16⟩,rfl,rfl,rfl⟩
   refine sc ?_
   replace hp:=dd hp
   refine xL (((y9x0_1,y9x0_2),y9x0_3,y9x0_4,y9x0_5,(y9x0_6,y9x0_7,y9x0_8,y9x0_9,y9x0_10,y9x0_11,y9x0_12,y9x0_13),y9x0_14,y9x0_15,y9x0_16):T_Inst) ?_
   refine L_field rfl rfl (show fld1 _ 111 3=some 4 by kernel_rfl) rfl ?_
   refine s2 ?_
   refine kp [0,15,16,17,25] ?_
   refine W_cond rfl (fun q10=>?_) (fun q10=>?_)
   ·replace hp:=cond_t q10 hp
    refine s4 ?_
    replace hp:=map_any hp;obtain ⟨a11,hp,z_11⟩:=hp
    obtain rfl:=hx6 _ z_11
    obtain rfl:=sj hp
    refine s1 ?_
    refine res1 rfl (ResOK.tmp rfl) ⟨rfl,rfl⟩ ms
   ·replace hp:=cond_f q10 hp
    refine s5 ?_
    exact ⟨IntKind.wrap .i64 (v6_0+1),sb,(.sub ms),some_eq hp⟩
  ·replace hp:=cond_f q7 hp
   refine W_exit ?_
   replace hp:=map_any hp;obtain ⟨a12,hp,z_12⟩:=hp
   obtain rfl:=hx6 _ z_12
   refine s4 ?_
   obtain rfl:=sj hp
   refine s1 ?_
   refine res1 rfl (ResOK.tmp rfl) ⟨rfl,rfl⟩ ms
noncomputable def i_part_c1 (a0:D_Id) (a1:D_Id) (c0:List D_Inst):Option Int :=
 Option.bind (i_InstAt c0 (a0.1,a0.2)) (fun y1=>Option.bind (i_InstAt c0 (a1.1,a1.2)) (fun y2=>cond (!decide (y1.2.2.2.2.2.1=y2.2.2.2.2.2.1)) (some (IntKind.wrap .i64 (y1.2.2.2.2.2.1 - y2.2.2.2.2.2.1))) (Option.bind (i_compareIds (a0.1,a0.2) (a1.1,a1.2)) (fun y4=>some y4))))
theorem i_part_c1_walk (w:World) (a0:T_Id) (a1:T_Id) (b0:Nat) (c0:TL T_Inst) (h0:GT.rd w [] a0) (h1:GT.rd w [] a1) (hb0:Cells w [] b0 0 (GT.cells c0)) (q0:GT.rd w [] c0) (r:Int) (hp:i_part_c1 (GT.dat a0) (GT.dat a1) (GT.dat c0)=some r):Spec Tryz.prog 212 ([(.agg (GT.cells a0).toArray:Value),(.agg (GT.cells a1).toArray:Value)]++[Value.pointer (some ⟨b0,0,none⟩)]).toArray w [] (IsV (.int .i64 r)):=by
 obtain ⟨a0_1,a0_2⟩:=a0
 obtain ⟨a1_1,a1_2⟩:=a1
 change Spec _ _ ([Value.agg #[.int .i64 a0_1,.int .i64 a0_2],Value.agg #[.int .i64 a1_1,.int .i64 a1_2],Value.pointer (some ⟨b0,0,none⟩)]:List Value).toArray w [] _
 refine Spec.intro Tryz.func212 rfl Tryz.ntmps212 rfl ?_
 unfold i_part_c1 at hp
 replace hp:=dd hp
 refine s2 ?_
 refine bx fun bk3=>?_
 refine bx fun bk4=>?_
 refine s3 ?_
 refine W_AH [] mix ?_
 refine AH_take 0 rfl (PU_load0 rfl rfl (RdC.old hb0) one29.h rfl) (by kernel_rfl) (by kernel_rfl) (by kernel_rfl) trivial ?_
 refine AH_A [blk bk3 [.int .i64 a0_1,.int .i64 a0_2] 92] trivial ?_
 refine AH_take 1 rfl (PU_loadW rfl rfl (RdC.blk mm) (by exact agg92.h)) (by kernel_rfl) (by kernel_rfl) (by kernel_rfl) ⟨mm,trivial⟩ ?_
 refine AH_take 4 rfl (PU_load0 rfl rfl (RdC.old hb0) one29.h rfl) (by kernel_rfl) (by kernel_rfl) (by kernel_rfl) ⟨mm,trivial⟩ ?_
 refine AH_A [blk bk4 [.int .i64 a1_1,.int .i64 a1_2] 92,blk bk3 [.int .i64 a0_1,.int .i64 a0_2] 92] ⟨mm,trivial⟩ ?_
 refine AH_take 5 rfl (PU_loadW rfl rfl (RdC.blk mm) (by exact agg92.h)) (by kernel_rfl) (by kernel_rfl) (by kernel_rfl) ⟨mm,⟨mm,trivial⟩⟩ ?_
 refine AH_one 2 rfl rfl (by kernel_rfl) ?_
 replace hp:=ba hp;obtain ⟨y1,hy1,hp⟩:=hp
 refine L_callR rfl fn77.h rfl (by exact fun w hw=>i_InstAt_walk w c0 (a0_1,a0_2) (RdT.now (RdT.old q0) hw) (RdT.now (RdT.pair RdT.int RdT.int) hw) _ hy1) ?_
 rintro _ _ ⟨⟨⟨y1x0_1,y1x0_2⟩,y1x0_3,y1x0_4,y1x0_5,⟨y1x0_6,y1x0_7,y1x0_8,y1x0_9,y1x0_10,y1x0_11,y1x0_12,y1x0_13⟩,y1x0_14,y1x0_15,y1x0_16⟩,rfl,rfl,rfl⟩
 refine sc ?_
 replace hp:=dd hp
 refine xL (((y1x0_1,y1x0_2),y1x0_3,y1x0_4,y1x0_5,(y1x0_6,y1x0_7,y1x0_8,y1x0_9,y1x0_10,y1x0_11,y1x0_12,y1x0_13),y1x0_14,y1x0_15,y1x0_16):T_Inst) ?_
 refine L_nil ⟨⟨mm,⟨mm,trivial⟩⟩,?_⟩
 refine AH_take 3 rfl (PU_field rfl rfl (show fld1 _ 111 5=some 13 by kernel_rfl) rfl) (by kernel_rfl) (by kernel_rfl) (by kernel_rfl) ⟨mm,⟨mm,trivial⟩⟩ ?_
 refine AH_one 6 rfl rfl (by kernel_rfl) ?_
 replace hp:=ba hp;obtain ⟨y2,hy2,hp⟩:=hp
 refine L_callR rfl fn77.h rfl (by exact fun w hw=>i_InstAt_walk w c0 (a1_1,a1_2) (RdT.now (RdT.old q0) hw) (RdT.now (RdT.pair RdT.int RdT.int) hw) _ hy2) ?_
 rintro _ _ ⟨⟨⟨y2x0_1,y2x0_2⟩,y2x0_3,y2x0_4,y2x0_5,⟨y2x0_6,y2x0_7,y2x0_8,y2x0_9,y2x0_10,y2x0_11,y2x0_12,y2x0_13⟩,y2x0_14,y2x0_15,y2x0_16⟩,rfl,rfl,rfl⟩
 refine sc ?_
 replace hp:=dd hp
 refine xL (((y2x0_1,y2x0_2),y2x0_3,y2x0_4,y2x0_5,(y2x0_6,y2x0_7,y2x0_8,y2x0_9,y2x0_10,y2x0_11,y2x0_12,y2x0_13),y2x0_14,y2x0_15,y2x0_16):T_Inst) ?_
 refine L_nil ⟨⟨mm,⟨mm,trivial⟩⟩,?_⟩
 refine AH_take 7 rfl (PU_field rfl rfl (show fld1 _ 111 5=some 13 by kernel_rfl) rfl) (by kernel_rfl) (by kernel_rfl) (by kernel_rfl) ⟨mm,⟨mm,trivial⟩⟩ ?_
 refine AH_one 8 rfl rfl (by kernel_rfl) ?_
 refine s1 ?_
 refine L_nil ⟨⟨mm,⟨mm,trivial⟩⟩,?_⟩
 refine AH_one 9 rfl rfl (by kernel_rfl) ?_
 refine s1 ?_
 refine L_nil ⟨⟨mm,⟨mm,trivial⟩⟩,?_⟩
 refine AH_done (by kernel_rfl) ?_
 refine s7 ?_
 refine kp [3,4,6,7,18] ?_
 refine W_cond rfl (fun q3=>?_) (fun q3=>?_)
 ·replace hp:=cond_t q3 hp
  refine s7 ?_
  obtain rfl:=sj hp
  refine s1 ?_
  refine res1 rfl (ResOK.tmp rfl) ⟨rfl,rfl⟩ ms
 ·replace hp:=cond_f q3 hp
  refine s5 ?_
  replace hp:=ba hp;obtain ⟨y4,hy4,hp⟩:=hp
  refine L_callX rfl fn55.h rfl (by exact fun w hw=>i_compareIds_walk w (a0_1,a0_2) (a1_1,a1_2) (RdT.now (RdT.pair RdT.int RdT.int) hw) (RdT.now (RdT.pair RdT.int RdT.int) hw) _ hy4) ?_
  refine s2 ?_
  obtain rfl:=sj hp
  refine s1 ?_
  refine res1 rfl (ResOK.tmp rfl) ⟨rfl,rfl⟩ ms
noncomputable def i_part (a0:List D_Inst) (a1:D_Id):Option (List D_Id) :=
 Option.bind (some ([(a1.1,a1.2)]:List D_Id)) (fun y1=>Option.bind (i_Reach a0 (a1.1,a1.2)) (fun y3=>whileP (fun s4:(List D_Id)×Int=>cond (decide (s4.2 < (y3.length:Int))) (Option.bind (idx y3 s4.2) (fun y6=>gb (!(decide (y6.1=a1.1)&&(decide (y6.2=a1.2)&&true))) (i_Reach a0 (y6.1,y6.2)) (fun y7=>gb (!(decide (y6.1=a1.1)&&(decide (y6.2=a1.2)&&true))) (sl_Contains_implIdimplId y7 (a1.1,a1.2)) (fun y8=>cond ((!(decide (y6.1=a1.1)&&(decide (y6.2=a1.2)&&true)))&&y8) (Option.bind (appP s4.1 [(y6.1,y6.2)]) (fun y11=>some (.inl ((y11,IntKind.wrap .i64 (s4.2+1)))))) (some (.inl ((s4.1,IntKind.wrap .i64 (s4.2+1))))))))) (Option.map .inr (Option.bind (sortFn s4.1 (fun z0 z1=>i_part_c1 z0 z1 a0)) (fun y13=>some y13)))) (y1,0)))
theorem i_part_walk (w:World) (a0:TL T_Inst) (a1:T_Id) (h0:GT.rd w [] a0) (h1:GT.rd w [] a1) (r:(List D_Id)) (hp:i_part (GT.dat a0) (GT.dat a1)=some r):Spec Tryz.prog 153 [(TL.hdr a0),.agg (GT.cells a1).toArray].toArray w [] (fun v M=>∃ (x0:TL T_Id),v=(TL.hdr x0)∧GT.dat x0=r∧M=[treeH x0]):=by
 obtain ⟨a1_1,a1_2⟩:=a1
 change Spec _ _ ([(TL.hdr a0),Value.agg #[.int .i64 a1_1,.int .i64 a1_2]]:List Value).toArray w [] _
 refine Spec.intro Tryz.func153 rfl Tryz.ntmps153 rfl ?_
 unfold i_part at hp
 replace hp:=dd hp
 refine s2 ?_
 refine bx fun bk2=>?_
 refine bx fun bk3=>?_
 refine L_assign (v:=(TL.hdr (TL.nil T_Id 0))) rfl rfl ?_
 refine s4 ?_
 replace hp:=ba hp;obtain ⟨y1,hy1,hp⟩:=hp
 refine L_bsN ([(a1_1,a1_2)]:List T_Id) (xs:=[(0,.tmp 8)]) rfl rfl el85.h rfl rfl rfl rfl rfl rfl rfl hy1 (fun X2 hdX2=>?_)
 subst hdX2
 refine s5 ?_
 refine L_load0 rfl rfl (RdC.blk mm) one29.h rfl ?_
 refine s1 ?_
 replace hp:=ba hp;obtain ⟨y3,hy3,hp⟩:=hp
 refine L_callR rfl fn211.h rfl (by exact fun w hw=>i_Reach_walk w a0 (a1_1,a1_2) (RdT.now (RdT.old h0) hw) (RdT.now (RdT.pair RdT.int RdT.int) hw) _ hy3) ?_
 rintro _ _ ⟨y3x0,rfl,rfl,rfl⟩
 refine sc ?_
 replace hp:=dd hp
 refine s4 ?_
 refine W_while (σ:=(TL T_Id)×Int) GT.dat (fun ((v4_0,v4_1):(TL T_Id)×Int)=>[(5,(TL.hdr v4_0)),(14,.int .i64 v4_1)]) (fun ((v4_0,v4_1):(TL T_Id)×Int)=>[treeH v4_0]) [(2,_),(3,_),(12,_),(13,_)] [blk bk2 _ _,blk bk3 _ _,treeH y3x0] (X2,0) hp sb ms ?_
 clear hp
 rintro ⟨v4_0,v4_1⟩ x4 hp hx4
 replace hp:=dd hp
 refine kq [2,3,5,12,13,14] ?_
 refine s5 ?_
 refine kp [2,3,5,12,13,14,15] ?_
 refine W_cond rfl (fun q5=>?_) (fun q5=>?_)
 ·replace hp:=cond_t q5 hp
  refine s5 ?_
  replace hp:=idx_bind hp;obtain ⟨⟨u6_1,u6_2⟩,hy6,hp⟩:=hp
  refine L_idxA (X:=y3x0) rfl rfl rfl el85.h (RdT.tree mm) hy6 ?_
  refine L_loadW rfl rfl (RdT.at (RdT.tree mm) (hy6).2) (by exact agg92.h) ?_
  refine al fun bk7=>?_
  refine s3 ?_
  replace hp:=gb_any hp;obtain ⟨y7,hy7,hp⟩:=hp
  replace hp:=gb_any hp;obtain ⟨y8,hy8,hp⟩:=hp
  refine W_D0 [27] mix (by kernel_rfl) rfl ?_
  refine s2 ?_
  refine D_bin GC.none (OpV.t rfl) (OpV.t rfl) (fun hg=>(bv_aneq eqsh92 (EqS.consI one3.h und3.h rfl rfl (EqS.consI one3.h und3.h rfl rfl EqS.nil)))) ?_
  refine s1 ?_
  refine D_load0 (GC.some rfl rfl) (OpV.t rfl) (fun hg=>RdC.blk mm) one29.h rfl ?_
  refine s1 ?_
  refine D_callGV (fun v M=>∃ (x0:TL T_Id),v=(TL.hdr x0)∧GT.dat x0=y7∧M=[treeH x0]) (GC.some rfl rfl) fn211.h (OpVs.cons (OpV.s rfl) (OpVs.cons (OpV.s rfl) (OpVs.nil))) (by exact fun hg w F hF hM=>i_Reach_walk w a0 (u6_1,u6_2) (RdT.nowS (RdT.old h0) hF hM) (RdT.nowS (RdT.pair RdT.int RdT.int) hF hM) _ (hy7 hg.2)) ?_
  refine s1 ?_
  refine D_callGR [_,_] (GC.some rfl rfl) fn151.h ⟨⟨_,rfl,fun _ _ h=>h⟩,⟨⟨_,rfl,fun _ _ h=>h⟩,trivial⟩⟩ (by rintro hg w F vs hF hM ⟨v0,u0,M0,rfl,g0,hin0,⟨v1,u1,M1,rfl,g1,hin1,rfl⟩⟩;obtain ⟨m0,rfl,hd0,rfl⟩:=g0.1 hg;subst hd0;obtain rfl:=g1.2.1 hg;exact sl_Contains_implIdimplId_walk w m0 (a1_1,a1_2) (rd_of_tree (hin0 _ (List.mem_singleton.2 rfl)) hF.sees) (RdT.nowS (RdT.pair RdT.int RdT.int) hF hM) _ (hy8 hg.2)) ?_
  refine s13 ?_
  refine kp [2,3,5,7,12,13,14,27] ?_
  refine W_cond rfl (fun q9=>?_) (fun q9=>?_)
  ·replace hp:=cond_t q9 hp
   refine s3 ?_
   refine L_buildSlice1 rfl rfl el85.h rfl (by decide) (by decide) rfl (fun bb30=>?_)
   replace hp:=ba hp;obtain ⟨y11,hy11,hp⟩:=hp
   refine L_app1F (X:=v4_0) ((u6_1,u6_2):T_Id) rfl rfl rfl el85.h rfl rfl pk mm  hy11 (by decide) (fun X10 hdX10=>?_)
   subst hdX10
   refine s6 ?_
   exact ⟨(X10,IntKind.wrap .i64 (v4_1+1)),sb,(.sub ms),some_eq hp⟩
  ·replace hp:=cond_f q9 hp
   refine s5 ?_
   exact ⟨(v4_0,IntKind.wrap .i64 (v4_1+1)),sb,(.sub ms),some_eq hp⟩
 ·replace hp:=cond_f q5 hp
  refine W_exit ?_
  replace hp:=map_any hp;obtain ⟨a12,hp,z_12⟩:=hp
  obtain rfl:=hx4 _ z_12
  refine s3 ?_
  refine L_makeFunc (fs:=[]) (cs:=[.tmp 2]) rfl rfl rfl ?_
  replace hp:=ba hp;obtain ⟨y13,hy13,hp⟩:=hp
  refine L_callM [treeH v4_0] _ rfl fn54.h rfl pc (by exact fun w hw=>sl_SortFunc_implIdimplId_walk w v4_0 212 [Value.pointer (some ⟨bk2,0,none⟩)] (fun z0 z1=>i_part_c1 z0 z1 (GT.dat a0)) fn212.h (fun w' F u0 u1 v hF hu0 hu1 hv=>i_part_c1_walk w' u0 u1 bk2 a0 hu0 hu1 (cells_of_blk (List.mem_append_right _ mm) (Holds.frame hw hF).sees) (rd_carry ((RdX.old h0) w hw) hF) v hv) _ hy13) ?_
  rintro _ _ ⟨y13y0,rfl,rfl,rfl,hey13_0⟩
  try rw [← hey13_0]
  refine sc ?_
  replace hp:=dd hp
  refine s6 ?_
  obtain rfl:=sj hp
  refine s1 ?_
  refine res1 rfl (ResOK.tmp rfl) ⟨y13y0,rfl,rfl,rfl⟩ ms
noncomputable def i_isFree (a0:List D_Inst) (a1:List D_Id) (a2:List D_Id):Option Bool :=
 whileP (fun s1:Int=>cond (decide (s1 < (a1.length:Int))) (Option.bind (idx a1 s1) (fun y3=>Option.bind (i_InstAt a0 (y3.1,y3.2)) (fun y4=>whileP (fun s5:Int=>cond (decide (s5 < (y4.2.2.2.2.2.2.1.length:Int))) (Option.bind (idx y4.2.2.2.2.2.2.1 s5) (fun y7=>Option.bind (sl_Contains_implIdimplId a1 (y7.1,y7.2)) (fun y8=>gb (!y8) (sl_Contains_implIdimplId a2 (y7.1,y7.2)) (fun y9=>cond ((!y8)&&(!y9)) (Option.map .inr (Option.map .inr (some false))) (some (.inl (IntKind.wrap .i64 (s5+1)))))))) (Option.map .inr (some (.inl (IntKind.wrap .i64 (s1+1)))))) 0))) (Option.map .inr (some true))) 0
theorem i_isFree_walk (w:World) (a0:TL T_Inst) (a1:TL T_Id) (a2:TL T_Id) (h0:GT.rd w [] a0) (h1:GT.rd w [] a1) (h2:GT.rd w [] a2) (r:Bool) (hp:i_isFree (GT.dat a0) (GT.dat a1) (GT.dat a2)=some r):Spec Tryz.prog 156 [(TL.hdr a0),(TL.hdr a1),(TL.hdr a2)].toArray w [] (IsV (.bool r)):=by
 refine Spec.intro Tryz.func156 rfl Tryz.ntmps156 rfl ?_
 unfold i_isFree at hp
 replace hp:=dd hp
 refine s12 ?_
 refine W_while (σ:=Int) GT.dat (fun (v1_0:Int)=>[(13,.int .i64 v1_0)]) (fun (v1_0:Int)=>[]) [(0,_),(1,_),(2,_),(11,_),(12,_)] [] 0 hp sb ms ?_
 clear hp
 rintro v1_0 x1 hp hx1
 replace hp:=dd hp
 refine kq [0,1,2,11,12,13] ?_
 refine s5 ?_
 refine kp [0,1,2,11,12,13,14] ?_
 refine W_cond rfl (fun q2=>?_) (fun q2=>?_)
 ·replace hp:=cond_t q2 hp
  refine s5 ?_
  replace hp:=idx_bind hp;obtain ⟨⟨u3_1,u3_2⟩,hy3,hp⟩:=hp
  refine L_idxA (X:=a1) rfl rfl rfl el85.h (RdT.old h1) hy3 ?_
  refine L_loadW rfl rfl (RdT.at (RdT.old h1) (hy3).2) (by exact agg92.h) ?_
  refine al fun bk8=>?_
  refine s6 ?_
  replace hp:=ba hp;obtain ⟨y4,hy4,hp⟩:=hp
  refine L_callR rfl fn77.h rfl (by exact fun w hw=>i_InstAt_walk w a0 (u3_1,u3_2) (RdT.now (RdT.old h0) hw) (RdT.now (RdT.pair RdT.int RdT.int) hw) _ hy4) ?_
  rintro _ _ ⟨⟨⟨y4x0_1,y4x0_2⟩,y4x0_3,y4x0_4,y4x0_5,⟨y4x0_6,y4x0_7,y4x0_8,y4x0_9,y4x0_10,y4x0_11,y4x0_12,y4x0_13⟩,y4x0_14,y4x0_15,y4x0_16⟩,rfl,rfl,rfl⟩
  refine sc ?_
  replace hp:=dd hp
  refine xL (((y4x0_1,y4x0_2),y4x0_3,y4x0_4,y4x0_5,(y4x0_6,y4x0_7,y4x0_8,y4x0_9,y4x0_10,y4x0_11,y4x0_12,y4x0_13),y4x0_14,y4x0_15,y4x0_16):T_Inst) ?_
  refine L_field rfl rfl (show fld1 _ 111 6=some 14 by kernel_rfl) rfl ?_
  refine s4 ?_
  refine W_while (σ:=Int) GT.dat (fun (v5_0:Int)=>[(22,.int .i64 v5_0)]) (fun (v5_0:Int)=>[]) [(0,_),(1,_),(2,_),(11,_),(12,_),(13,_),(20,_),(21,_)] [treeH y4x0_15] 0 hp sb ms ?_
  clear hp
  rintro v5_0 x5 hp hx5
  replace hp:=dd hp
  refine kq [0,1,2,11,12,13,20,21,22] ?_
  refine s5 ?_
  refine kp [0,1,2,11,12,13,20,21,22,23] ?_
  refine W_cond rfl (fun q6=>?_) (fun q6=>?_)
  ·replace hp:=cond_t q6 hp
   refine s5 ?_
   replace hp:=idx_bind hp;obtain ⟨⟨u7_1,u7_2⟩,hy7,hp⟩:=hp
   refine L_idxA (X:=y4x0_15) rfl rfl rfl el85.h (RdT.tree mm) hy7 ?_
   refine L_loadW rfl rfl (RdT.at (RdT.tree mm) (hy7).2) (by exact agg92.h) ?_
   refine al fun bk10=>?_
   refine s3 ?_
   replace hp:=ba hp;obtain ⟨y8,hy8,hp⟩:=hp
   replace hp:=gb_any hp;obtain ⟨y9,hy9,hp⟩:=hp
   refine W_D0 [35] mix (by kernel_rfl) rfl ?_
   refine s2 ?_
   refine D_callX GC.none fn151.h (OpVs.cons (OpV.t rfl) (OpVs.cons (OpV.t rfl) (OpVs.nil))) (by exact fun hg w F hF hM=>sl_Contains_implIdimplId_walk w a1 (u7_1,u7_2) (RdT.nowS (RdT.old h1) hF hM) (RdT.nowS (RdT.pair RdT.int RdT.int) hF hM) _ hy8) ?_
   refine s4 ?_
   refine D_callX (GC.some rfl rfl) fn151.h (OpVs.cons (OpV.s rfl) (OpVs.cons (OpV.s rfl) (OpVs.nil))) (by exact fun hg w F hF hM=>sl_Contains_implIdimplId_walk w a2 (u7_1,u7_2) (RdT.nowS (RdT.old h2) hF hM) (RdT.nowS (RdT.pair RdT.int RdT.int) hF hM) _ (hy9 hg.2)) ?_
   refine s14 ?_
   refine kp [0,1,2,11,12,13,20,21,22,35] ?_
   refine W_cond rfl (fun q10=>?_) (fun q10=>?_)
   ·replace hp:=cond_t q10 hp
    refine s4 ?_
    replace hp:=map_any hp;obtain ⟨a11,hp,z_11⟩:=hp
    obtain rfl:=hx5 _ z_11
    replace hp:=map_any hp;obtain ⟨a12,hp,z_12⟩:=hp
    obtain rfl:=hx1 _ z_12
    obtain rfl:=sj hp
    refine s1 ?_
    refine res1 rfl (ResOK.tmp rfl) ⟨rfl,rfl⟩ ms
   ·replace hp:=cond_f q10 hp
    refine s5 ?_
    exact ⟨IntKind.wrap .i64 (v5_0+1),sb,(.sub ms),some_eq hp⟩
  ·replace hp:=cond_f q6 hp
   refine W_exit ?_
   replace hp:=map_any hp;obtain ⟨a13,hp,z_13⟩:=hp
   obtain rfl:=hx5 _ z_13
   refine s4 ?_
   exact ⟨IntKind.wrap .i64 (v1_0+1),sb,(.sub ms),some_eq hp⟩
 ·replace hp:=cond_f q2 hp
  refine W_exit ?_
  replace hp:=map_any hp;obtain ⟨a14,hp,z_14⟩:=hp
  obtain rfl:=hx1 _ z_14
  refine s4 ?_
  obtain rfl:=sj hp
  refine s1 ?_
  refine res1 rfl (ResOK.tmp rfl) ⟨rfl,rfl⟩ ms
noncomputable def i_Parts_c1 (a0:List D_Id) (c0:D_Inst):Option Bool :=
 Option.bind (sl_Contains_implIdimplId a0 (c0.1.1,c0.1.2)) (fun y1=>some y1)
theorem i_Parts_c1_walk (w:World) (a0:TL T_Id) (b0:Nat) (c0:T_Inst) (h0:GT.rd w [] a0) (hb0:Cells w [] b0 0 (GT.cells c0)) (q0:GT.rd w [] c0) (r:Bool) (hp:i_Parts_c1 (GT.dat a0) (GT.dat c0)=some r):Spec Tryz.prog 150 ([((TL.hdr a0):Value)]++[Value.pointer (some ⟨b0,0,none⟩)]).toArray w [] (IsV (.bool r)):=by
 obtain ⟨⟨c0_1,c0_2⟩,c0_3,c0_4,c0_5,⟨c0_6,c0_7,c0_8,c0_9,c0_10,c0_11,c0_12,c0_13⟩,c0_14,c0_15,c0_16⟩:=c0
 change Spec _ _ ([(TL.hdr a0),Value.pointer (some ⟨b0,0,none⟩)]:List Value).toArray w [] _
 refine Spec.intro Tryz.func150 rfl Tryz.ntmps150 rfl ?_
 unfold i_Parts_c1 at hp
 replace hp:=dd hp
 refine s8 ?_
 refine L_loadW rfl rfl (RdC.seg (RdC.old hb0) 0 2 rfl) (by exact agg92.h) ?_
 replace hp:=ba hp;obtain ⟨y1,hy1,hp⟩:=hp
 refine L_callX rfl fn151.h rfl (by exact fun w hw=>sl_Contains_implIdimplId_walk w a0 (c0_1,c0_2) (RdT.now (RdT.old h0) hw) (RdT.now (RdT.pair RdT.int RdT.int) hw) _ hy1) ?_
 refine s2 ?_
 obtain rfl:=sj hp
 refine s1 ?_
 refine res1 rfl (ResOK.tmp rfl) ⟨rfl,rfl⟩ ms
noncomputable def sl_IndexFunc_implIdimplId (a0:List (List D_Id)) (a1:(List D_Id)→Option Bool):Option Int :=
 whileP (fun s1:Int=>cond (decide (s1 < (a0.length:Int))) (Option.bind (idx a0 s1) (fun y3=>Option.bind (a1 y3) (fun y4=>cond y4 (Option.map .inr (some s1)) (some (.inl (IntKind.wrap .i64 (s1+1))))))) (Option.map .inr (some (-1)))) 0
theorem sl_IndexFunc_implIdimplId_walk (w:World) (a0:TL (TL T_Id)) (f1:Nat) (cs1:List Value) (a1:(List D_Id)→Option Bool) (h0:GT.rd w [] a0) (hf1:IsFn Tryz.prog f1) (hk1:∀ (w':World) (F:List HP) (u0:TL T_Id) (v:Bool),Holds w [] F w'→GT.rd w' [] u0→a1 (GT.dat u0)=some v→Spec Tryz.prog f1 ([((TL.hdr u0):Value)]++cs1).toArray w' [] (IsV (.bool v))) (r:Int) (hp:sl_IndexFunc_implIdimplId (GT.dat a0) a1=some r):Spec Tryz.prog 154 [(TL.hdr a0),.func (.func f1) #[] cs1.toArray].toArray w [] (IsV (.int .i64 r)):=by
 refine Spec.intro Tryz.func154 rfl Tryz.ntmps154 rfl ?_
 unfold sl_IndexFunc_implIdimplId at hp
 replace hp:=dd hp
 refine s12 ?_
 refine W_while (σ:=Int) GT.dat (fun (v1_0:Int)=>[(8,.int .i64 v1_0)]) (fun (v1_0:Int)=>[]) [(0,_),(1,_),(7,_)] [] 0 hp sb ms ?_
 clear hp
 rintro v1_0 x1 hp hx1
 replace hp:=dd hp
 refine kq [0,1,7,8] ?_
 refine s5 ?_
 refine kp [0,1,7,8,9] ?_
 refine W_cond rfl (fun q2=>?_) (fun q2=>?_)
 ·replace hp:=cond_t q2 hp
  refine s13 ?_
  replace hp:=idx_bind hp;obtain ⟨u3,hy3,hp⟩:=hp
  refine L_idxA (X:=a0) rfl rfl rfl el139.h (RdT.old h0) hy3 ?_
  refine L_load0 rfl rfl (RdT.at (RdT.old h0) (hy3).2) one85.h rfl ?_
  replace hp:=ba hp;obtain ⟨y4,hy4,hp⟩:=hp
  refine L_callVX rfl rfl hf1 rfl (by exact fun w hw=>hk1 w _ u3 y4 hw (RdT.now (RdT.of (RdT.old h0) (hy3).2) hw) hy4) ?_
  refine s1 ?_
  refine kp [0,1,5,7,8,16] ?_
  refine W_cond rfl (fun q5=>?_) (fun q5=>?_)
  ·replace hp:=cond_t q5 hp
   refine s5 ?_
   replace hp:=map_any hp;obtain ⟨a6,hp,z_6⟩:=hp
   obtain rfl:=hx1 _ z_6
   obtain rfl:=sj hp
   refine s1 ?_
   refine res1 rfl (ResOK.tmp rfl) ⟨rfl,rfl⟩ ms
  ·replace hp:=cond_f q5 hp
   refine s5 ?_
   exact ⟨IntKind.wrap .i64 (v1_0+1),sb,(.sub ms),some_eq hp⟩
 ·replace hp:=cond_f q2 hp
  refine W_exit ?_
  replace hp:=map_any hp;obtain ⟨a7,hp,z_7⟩:=hp
  obtain rfl:=hx1 _ z_7
  refine s4 ?_
  obtain rfl:=sj hp
  refine s1 ?_
  refine res1 rfl (ResOK.tmp rfl) ⟨rfl,rfl⟩ ms
noncomputable def sl_ContainsFunc_implIdimplId (a0:List (List D_Id)) (a1:(List D_Id)→Option Bool):Option Bool :=
 Option.bind (sl_IndexFunc_implIdimplId a0 a1) (fun y1=>some (decide (0≤y1)))
theorem sl_ContainsFunc_implIdimplId_walk (w:World) (a0:TL (TL T_Id)) (f1:Nat) (cs1:List Value) (a1:(List D_Id)→Option Bool) (h0:GT.rd w [] a0) (hf1:IsFn Tryz.prog f1) (hk1:∀ (w':World) (F:List HP) (u0:TL T_Id) (v:Bool),Holds w [] F w'→GT.rd w' [] u0→a1 (GT.dat u0)=some v→Spec Tryz.prog f1 ([((TL.hdr u0):Value)]++cs1).toArray w' [] (IsV (.bool v))) (r:Bool) (hp:sl_ContainsFunc_implIdimplId (GT.dat a0) a1=some r):Spec Tryz.prog 149 [(TL.hdr a0),.func (.func f1) #[] cs1.toArray].toArray w [] (IsV (.bool r)):=by
 refine Spec.intro Tryz.func149 rfl Tryz.ntmps149 rfl ?_
 unfold sl_ContainsFunc_implIdimplId at hp
 replace hp:=dd hp
 refine s8 ?_
 replace hp:=ba hp;obtain ⟨y1,hy1,hp⟩:=hp
 refine L_callX rfl fn154.h rfl (by exact fun w hw=>sl_IndexFunc_implIdimplId_walk w a0 f1 cs1 a1 (RdT.now (RdT.old h0) hw) hf1 (fun w' F u0 v hF hu0 hv=>hk1 w' _ u0 v (Holds.frame (M1:=[]) (M2:=_) hw hF) hu0 hv) _ hy1) ?_
 refine s3 ?_
 obtain rfl:=sj hp
 refine s1 ?_
 refine res1 rfl (ResOK.tmp rfl) ⟨rfl,rfl⟩ ms
noncomputable def i_Parts_c2 (a0:List D_Id) (c0:List D_Inst) (c1:List D_Id):Option Bool :=
 Option.bind (i_isFree c0 a0 c1) (fun y1=>some y1)
theorem i_Parts_c2_walk (w:World) (a0:TL T_Id) (b0:Nat) (c0:TL T_Inst) (b1:Nat) (c1:TL T_Id) (h0:GT.rd w [] a0) (hb0:Cells w [] b0 0 (GT.cells c0)) (q0:GT.rd w [] c0) (hb1:Cells w [] b1 0 (GT.cells c1)) (q1:GT.rd w [] c1) (r:Bool) (hp:i_Parts_c2 (GT.dat a0) (GT.dat c0) (GT.dat c1)=some r):Spec Tryz.prog 155 ([((TL.hdr a0):Value)]++[Value.pointer (some ⟨b0,0,none⟩),Value.pointer (some ⟨b1,0,none⟩)]).toArray w [] (IsV (.bool r)):=by
 change Spec _ _ ([(TL.hdr a0),Value.pointer (some ⟨b0,0,none⟩),Value.pointer (some ⟨b1,0,none⟩)]:List Value).toArray w [] _
 refine Spec.intro Tryz.func155 rfl Tryz.ntmps155 rfl ?_
 unfold i_Parts_c2 at hp
 replace hp:=dd hp
 refine s6 ?_
 refine L_load0 rfl rfl (RdC.old hb0) one29.h rfl ?_
 refine s1 ?_
 refine L_load0 rfl rfl (RdC.old hb1) one85.h rfl ?_
 replace hp:=ba hp;obtain ⟨y1,hy1,hp⟩:=hp
 refine L_callX rfl fn156.h rfl (by exact fun w hw=>i_isFree_walk w c0 a0 c1 (RdT.now (RdT.old q0) hw) (RdT.now (RdT.old h0) hw) (RdT.now (RdT.old q1) hw) _ hy1) ?_
 refine s2 ?_
 obtain rfl:=sj hp
 refine s1 ?_
 refine res1 rfl (ResOK.tmp rfl) ⟨rfl,rfl⟩ ms
noncomputable def i_Parts (a0:List D_Inst):Option (List (List D_Id)) :=
 Option.bind (i_InstsOk a0) (fun y1=>cond (!y1) (some ([]:List (List D_Id))) (Option.bind (some ([]:List (List D_Id))) (fun y4=>whileP (fun s5:(List (List D_Id))×Int=>cond (decide (s5.2 < (a0.length:Int))) (Option.bind (idx a0 s5.2) (fun y7=>Option.bind (sl_ContainsFunc_implIdimplId s5.1 (fun z0=>i_Parts_c1 z0 ((y7.1.1,y7.1.2),y7.2.1,y7.2.2.1,y7.2.2.2.1,(y7.2.2.2.2.1.1,y7.2.2.2.2.1.2.1,y7.2.2.2.2.1.2.2.1,y7.2.2.2.2.1.2.2.2.1,y7.2.2.2.2.1.2.2.2.2.1,y7.2.2.2.2.1.2.2.2.2.2.1,y7.2.2.2.2.1.2.2.2.2.2.2.1,y7.2.2.2.2.1.2.2.2.2.2.2.2),y7.2.2.2.2.2.1,y7.2.2.2.2.2.2.1,y7.2.2.2.2.2.2.2))) (fun y8=>gb (!y8) (i_Ready a0 (y7.1.1,y7.1.2)) (fun y9=>cond ((!y8)&&y9) (Option.bind (i_part a0 (y7.1.1,y7.1.2)) (fun y11=>Option.bind (appP s5.1 [y11]) (fun y13=>some (.inl ((y13,IntKind.wrap .i64 (s5.2+1))))))) (some (.inl ((s5.1,IntKind.wrap .i64 (s5.2+1))))))))) (Option.map .inr (Option.bind (some ([]:List (List D_Id))) (fun y16=>Option.bind (some ([]:List D_Id)) (fun y18=>whileP (fun s19:(List (List D_Id))×(List (List D_Id))×(List D_Id)=>cond (decide (0 < (s19.1.length:Int))) (Option.bind (sl_IndexFunc_implIdimplId s19.1 (fun z0=>i_Parts_c2 z0 a0 s19.2.2)) (fun y21=>cond (decide (y21 < 0)) (Option.map .inr (some s19.2.1)) (Option.bind (idx s19.1 y21) (fun y24=>Option.bind (appP s19.2.1 [y24]) (fun y26=>Option.bind (idx s19.1 y21) (fun y27=>Option.bind (appP s19.2.2 y24) (fun y29=>Option.bind (delP s19.1 y21 (IntKind.wrap .i64 (y21+1))) (fun y30=>some (.inl ((y30,y26,y29))))))))))) (Option.map .inr (some s19.2.1))) (s5.1,y16,y18)))))) (y4,0))))
theorem i_Parts_walk (w:World) (a0:TL T_Inst) (h0:GT.rd w [] a0) (r:(List (List D_Id))) (hp:i_Parts (GT.dat a0)=some r):Spec Tryz.prog 99 [(TL.hdr a0)].toArray w [] (fun v M=>∃ (x0:TL (TL T_Id)),v=(TL.hdr x0)∧GT.dat x0=r∧M=[treeH x0]):=by
 refine Spec.intro Tryz.func99 rfl Tryz.ntmps99 rfl ?_
 unfold i_Parts at hp
 replace hp:=dd hp
 refine s2 ?_
 refine bx fun bk1=>?_
 refine L_assign (v:=(TL.hdr (TL.nil (TL T_Id) 0))) rfl rfl ?_
 refine s4 ?_
 refine L_load0 rfl rfl (RdC.blk mm) one29.h rfl ?_
 replace hp:=ba hp;obtain ⟨y1,hy1,hp⟩:=hp
 refine L_callX rfl fn73.h rfl (by exact fun w hw=>i_InstsOk_walk w a0 (RdT.now (RdT.old h0) hw) _ hy1) ?_
 refine s2 ?_
 refine kp [1,12] ?_
 refine W_cond rfl (fun q2=>?_) (fun q2=>?_)
 ·replace hp:=cond_t q2 hp
  refine s2 ?_
  refine L_assign (v:=(TL.hdr (TL.nil (TL T_Id) 0))) rfl rfl ?_
  refine s1 ?_
  obtain rfl:=sj hp
  refine W_conv (M':=treeH (TL.nil (TL T_Id) 0)::_) (fun w h=>addNilT (τ:=TL T_Id) 0 h) ?_
  refine s1 ?_
  refine res1 rfl (ResOK.tmp rfl) ⟨(TL.nil (TL T_Id) 0),rfl,rfl,rfl⟩ ms
 ·replace hp:=cond_f q2 hp
  refine s3 ?_
  replace hp:=ba hp;obtain ⟨y4,hy4,hp⟩:=hp
  refine L_mk0 (TL T_Id) rfl el139.h (fun X3 hdX3=>?_)
  obtain rfl:GT.dat X3=y4:=hdX3.trans (Option.some.inj hy4)
  clear hy4 hdX3
  refine s5 ?_
  refine L_load0 rfl rfl (RdC.blk mm) one29.h rfl ?_
  refine s4 ?_
  refine W_while (σ:=(TL (TL T_Id))×Int) GT.dat (fun ((v5_0,v5_1):(TL (TL T_Id))×Int)=>[(3,(TL.hdr v5_0)),(16,.int .i64 v5_1)]) (fun ((v5_0,v5_1):(TL (TL T_Id))×Int)=>[treeH v5_0]) [(1,_),(14,_),(15,_)] [blk bk1 _ _] (X3,0) hp sb ms ?_
  clear hp
  rintro ⟨v5_0,v5_1⟩ x5 hp hx5
  replace hp:=dd hp
  refine kq [1,3,14,15,16] ?_
  refine s5 ?_
  refine kp [1,3,14,15,16,17] ?_
  refine W_cond rfl (fun q6=>?_) (fun q6=>?_)
  ·replace hp:=cond_t q6 hp
   refine s5 ?_
   replace hp:=idx_bind hp;obtain ⟨⟨⟨u7_1,u7_2⟩,u7_3,u7_4,u7_5,⟨u7_6,u7_7,u7_8,u7_9,u7_10,u7_11,u7_12,u7_13⟩,u7_14,u7_15,u7_16⟩,hy7,hp⟩:=hp
   refine L_idxA (X:=a0) rfl rfl rfl el29.h (RdT.old h0) hy7 ?_
   refine L_loadW rfl rfl (RdT.at (RdT.old h0) (hy7).2) (by exact agg111.h) ?_
   refine al fun bk5=>?_
   refine s5 ?_
   refine L_makeFunc (fs:=[]) (cs:=[.tmp 5]) rfl rfl rfl ?_
   replace hp:=ba hp;obtain ⟨y8,hy8,hp⟩:=hp
   refine L_callX rfl fn149.h rfl (by exact fun w hw=>sl_ContainsFunc_implIdimplId_walk w v5_0 150 [Value.pointer (some ⟨bk5,0,none⟩)] (fun z0=>i_Parts_c1 z0 ((u7_1,u7_2),u7_3,u7_4,u7_5,(u7_6,u7_7,u7_8,u7_9,u7_10,u7_11,u7_12,GT.dat u7_13),u7_14,GT.dat u7_15,u7_16)) (RdT.now (RdT.tree mm) hw) fn150.h (fun w' F u0 v hF hu0 hv=>i_Parts_c1_walk w' u0 bk5 ((u7_1,u7_2),u7_3,u7_4,u7_5,(u7_6,u7_7,u7_8,u7_9,u7_10,u7_11,u7_12,u7_13),u7_14,u7_15,u7_16) hu0 ((cells_of_blk mm hw.sees).carry hF) (rd_carry (RdT.now (RdT.pair (RdT.pair RdT.int RdT.int) (RdT.pair RdT.int (RdT.pair RdT.int (RdT.pair RdT.int (RdT.pair (RdT.pair RdT.int (RdT.pair RdT.int (RdT.pair RdT.int (RdT.pair RdT.str (RdT.pair RdT.str (RdT.pair RdT.str (RdT.pair RdT.int (RdT.snd (RdT.snd (RdT.snd (RdT.snd (RdT.snd (RdT.snd (RdT.snd (RdT.fst (RdT.snd (RdT.snd (RdT.snd (RdT.snd (RdT.of (RdT.old h0) (hy7).2)))))))))))))))))))) (RdT.pair RdT.int (RdT.pair (RdT.fst (RdT.snd (RdT.snd (RdT.snd (RdT.snd (RdT.snd (RdT.snd (RdT.of (RdT.old h0) (hy7).2)))))))) RdT.bool))))))) hw) hF) v hv) _ hy8) ?_
   refine s3 ?_
   replace hp:=gb_any hp;obtain ⟨y9,hy9,hp⟩:=hp
   refine W_D0 [30] mix (by kernel_rfl) rfl ?_
   refine s3 ?_
   refine D_load0 (GC.some rfl rfl) (OpV.t rfl) (fun hg=>RdC.blk mm) one29.h rfl ?_
   refine s1 ?_
   refine D_loadW (GC.some rfl rfl) (OpV.s rfl) (fun hg=>RdC.seg (RdC.blk mm) 0 2 rfl) (by exact agg92.h) ?_
   refine D_callX (GC.some rfl rfl) fn152.h (OpVs.cons (OpV.s rfl) (OpVs.cons (OpV.s rfl) (OpVs.nil))) (by exact fun hg w F hF hM=>i_Ready_walk w a0 (u7_1,u7_2) (RdT.nowS (RdT.old h0) hF hM) (RdT.nowS (RdT.pair RdT.int RdT.int) hF hM) _ (hy9 hg.2)) ?_
   refine s11 ?_
   refine kp [1,3,5,14,15,16,30] ?_
   refine W_cond rfl (fun q10=>?_) (fun q10=>?_)
   ·replace hp:=cond_t q10 hp
    refine s2 ?_
    refine L_load0 rfl rfl (RdC.blk mm) one29.h rfl ?_
    refine s1 ?_
    refine L_loadW rfl rfl (RdC.seg (RdC.blk mm) 0 2 rfl) (by exact agg92.h) ?_
    replace hp:=ba hp;obtain ⟨y11,hy11,hp⟩:=hp
    refine L_callR rfl fn153.h rfl (by exact fun w hw=>i_part_walk w a0 (u7_1,u7_2) (RdT.now (RdT.old h0) hw) (RdT.now (RdT.pair RdT.int RdT.int) hw) _ hy11) ?_
    rintro _ _ ⟨y11x0,rfl,rfl,rfl⟩
    refine sc ?_
    replace hp:=dd hp
    refine L_buildSlice1 rfl rfl el139.h rfl (by decide) (by decide) rfl (fun bb36=>?_)
    replace hp:=ba hp;obtain ⟨y13,hy13,hp⟩:=hp
    refine L_app1m (X:=v5_0) (y11x0:(TL T_Id)) rfl rfl rfl el139.h rfl rfl pk mm pk hy13 (by decide) (fun X12 hdX12 hmX12=>?_)
    subst hdX12
    refine s6 ?_
    exact ⟨(X12,IntKind.wrap .i64 (v5_1+1)),sb,(.sub ms),some_eq hp⟩
   ·replace hp:=cond_f q10 hp
    refine s5 ?_
    exact ⟨(v5_0,IntKind.wrap .i64 (v5_1+1)),sb,(.sub ms),some_eq hp⟩
  ·replace hp:=cond_f q6 hp
   refine W_exit ?_
   replace hp:=map_any hp;obtain ⟨a14,hp,z_14⟩:=hp
   obtain rfl:=hx5 _ z_14
   refine s2 ?_
   replace hp:=ba hp;obtain ⟨y16,hy16,hp⟩:=hp
   refine L_mk0 (TL T_Id) rfl el139.h (fun X15 hdX15=>?_)
   obtain rfl:GT.dat X15=y16:=hdX15.trans (Option.some.inj hy16)
   clear hy16 hdX15
   refine s4 ?_
   replace hp:=ba hp;obtain ⟨y18,hy18,hp⟩:=hp
   refine L_mk0 T_Id rfl el85.h (fun X17 hdX17=>?_)
   obtain rfl:GT.dat X17=y18:=hdX17.trans (Option.some.inj hy18)
   clear hy18 hdX17
   refine al fun bk8=>?_
   refine L_store0 rfl rfl pk one85.h rfl ?_
   refine s3 ?_
   refine W_while (σ:=(TL (TL T_Id))×(TL (TL T_Id))×(TL T_Id)) GT.dat (fun ((v19_0,v19_1,v19_2):(TL (TL T_Id))×(TL (TL T_Id))×(TL T_Id))=>[(3,(TL.hdr v19_0)),(7,(TL.hdr v19_1))]) (fun ((v19_0,v19_1,v19_2):(TL (TL T_Id))×(TL (TL T_Id))×(TL T_Id))=>[blk bk8 [(TL.hdr v19_2)] 85,treeH v19_0,treeH v19_1,treeH v19_2]) [(1,_),(8,_)] [blk bk1 _ _] (v5_0,X15,X17) hp sb ms ?_
   clear hp
   rintro ⟨v19_0,v19_1,v19_2⟩ x19 hp hx19
   replace hp:=dd hp
   refine kq [1,3,7,8] ?_
   refine s7 ?_
   refine kp [1,3,7,8,43] ?_
   refine W_cond rfl (fun q20=>?_) (fun q20=>?_)
   ·replace hp:=cond_t q20 hp
    refine s5 ?_
    refine L_makeFunc (fs:=[]) (cs:=[.tmp 1,.tmp 8]) rfl rfl rfl ?_
    replace hp:=ba hp;obtain ⟨y21,hy21,hp⟩:=hp
    refine L_callX rfl fn154.h rfl (by exact fun w hw=>sl_IndexFunc_implIdimplId_walk w v19_0 155 [Value.pointer (some ⟨bk1,0,none⟩),Value.pointer (some ⟨bk8,0,none⟩)] (fun z0=>i_Parts_c2 z0 (GT.dat a0) (GT.dat v19_2)) (RdT.now (RdT.tree mm) hw) fn155.h (fun w' F u0 v hF hu0 hv=>i_Parts_c2_walk w' u0 bk1 a0 bk8 v19_2 hu0 ((cells_of_blk mm hw.sees).carry hF) (rd_carry (RdT.now (RdT.old h0) hw) hF) ((cells_of_blk mm hw.sees).carry hF) (rd_carry (RdT.now (RdT.tree mm) hw) hF) v hv) _ hy21) ?_
    refine s8 ?_
    refine kp [1,3,7,8,9,48] ?_
    refine W_cond rfl (fun q22=>?_) (fun q22=>?_)
    ·replace hp:=cond_t q22 hp
     refine W_exit ?_
     replace hp:=map_any hp;obtain ⟨a23,hp,z_23⟩:=hp
     obtain rfl:=hx19 _ z_23
     refine s5 ?_
     obtain rfl:=sj hp
     refine s1 ?_
     refine res1 rfl (ResOK.tmp rfl) ⟨v19_1,rfl,rfl,rfl⟩ ms
    ·replace hp:=cond_f q22 hp
     refine s6 ?_
     replace hp:=idx_bind hp;obtain ⟨u24,hy24,hp⟩:=hp
     refine L_idxA (X:=v19_0) rfl rfl rfl el139.h (RdT.tree mm) hy24 ?_
     refine L_load0 rfl rfl (RdT.at (RdT.tree mm) (hy24).2) one85.h rfl ?_
     refine L_buildSlice1 rfl rfl el139.h rfl (by decide) (by decide) rfl (fun bb54=>?_)
     replace hp:=ba hp;obtain ⟨y26,hy26,hp⟩:=hp
     refine L_conv (M':=treeH u24::holeH v19_0 (y21.toNat) (GT.cells u24)::_) (fun w h=>hole_open hy24.2 pk h) ?_
     refine L_app1m (X:=v19_1) (u24:(TL T_Id)) rfl rfl rfl el139.h rfl rfl pk mm pk hy26 (by decide) (fun X25 hdX25 hmX25=>?_)
     subst hdX25
     refine s3 ?_
     replace hp:=idx_bind hp;obtain ⟨u27,hy27,hp⟩:=hp
     obtain rfl:u24=u27:=Option.some.inj (hy24.2.symm.trans hy27.2)
     refine W_DS (pre:=[_,_,_,_,_]) (suf:=[_,_]) [56,60] [] _ pc mix (by kernel_rfl) (by kernel_rfl) rfl ?_
     refine D_load0 GC.none (OpV.t rfl) (fun hg=>RdC.blk mm) one85.h rfl ?_
     refine s2 ?_
     refine D_idxH (X:=v19_0) GC.none (OpV.t rfl) (OpV.t rfl) el139.h mm (fun hg=>hy24) ?_
     refine D_load0 GC.none (OpV.t rfl) (fun hg=>RdC.hole (X:=v19_0) mm) one85.h rfl ?_
     refine s7 ?_
     replace hp:=ba hp;obtain ⟨y29,hy29,hp⟩:=hp
     refine L_appT (X:=v19_2) (Y:=u24) rfl rfl rfl el85.h rfl rfl pk (RdT.el (RdT.tree mm) hmX25) hy29 (by decide) (fun X28 hdX28=>?_)
     subst hdX28
     refine L_store0 rfl rfl pk one85.h rfl ?_
     refine s6 ?_
     replace hp:=ba hp;obtain ⟨y30,hy30,hp⟩:=hp
     refine L_callM [holeH v19_0 (y21.toNat) (GT.cells u24)] _ rfl fn157.h rfl pc (by exact fun w hw=>sl_Delete_implIdimplId_walkH w v19_0 u24 y21 (IntKind.wrap .i64 (y21+1)) hy24.2 rfl _ hy30) ?_
     rintro _ _ ⟨y30x0,rfl,rfl,rfl⟩
     refine sc ?_
     replace hp:=dd hp
     refine s2 ?_
     exact ⟨(y30x0,X25,X28),sb,(.sub ms),some_eq hp⟩
   ·replace hp:=cond_f q20 hp
    refine W_exit ?_
    replace hp:=map_any hp;obtain ⟨a31,hp,z_31⟩:=hp
    obtain rfl:=hx19 _ z_31
    refine s5 ?_
    obtain rfl:=sj hp
    refine s1 ?_
    refine res1 rfl (ResOK.tmp rfl) ⟨v19_1,rfl,rfl,rfl⟩ ms
noncomputable def i_ExecOrder (a0:List D_Inst):Option (List D_Id) :=
 Option.bind (some ([]:List D_Id)) (fun y2=>Option.bind (i_Parts a0) (fun y3=>whileP (fun s4:(List D_Id)×Int=>cond (decide (s4.2 < (y3.length:Int))) (Option.bind (idx y3 s4.2) (fun y6=>Option.bind (appP s4.1 y6) (fun y8=>some (.inl ((y8,IntKind.wrap .i64 (s4.2+1))))))) (Option.map .inr (some s4.1))) (y2,0)))
theorem i_ExecOrder_walk (w:World) (a0:TL T_Inst) (h0:GT.rd w [] a0) (r:(List D_Id)) (hp:i_ExecOrder (GT.dat a0)=some r):Spec Tryz.prog 53 [(TL.hdr a0)].toArray w [] (fun v M=>∃ (x0:TL T_Id),v=(TL.hdr x0)∧GT.dat x0=r∧M=[treeH x0]):=by
 refine Spec.intro Tryz.func53 rfl Tryz.ntmps53 rfl ?_
 unfold i_ExecOrder at hp
 replace hp:=dd hp
 refine s2 ?_
 refine L_assign (v:=(TL.hdr (TL.nil T_Id 0))) rfl rfl ?_
 refine s3 ?_
 replace hp:=ba hp;obtain ⟨y2,hy2,hp⟩:=hp
 refine L_mk0 T_Id rfl el85.h (fun X1 hdX1=>?_)
 obtain rfl:GT.dat X1=y2:=hdX1.trans (Option.some.inj hy2)
 clear hy2 hdX1
 refine s6 ?_
 replace hp:=ba hp;obtain ⟨y3,hy3,hp⟩:=hp
 refine L_callR rfl fn99.h rfl (by exact fun w hw=>i_Parts_walk w a0 (RdT.now (RdT.old h0) hw) _ hy3) ?_
 rintro _ _ ⟨y3x0,rfl,rfl,rfl⟩
 refine sc ?_
 replace hp:=dd hp
 refine s4 ?_
 refine W_while (σ:=(TL T_Id)×Int) GT.dat (fun ((v4_0,v4_1):(TL T_Id)×Int)=>[(3,(TL.hdr v4_0)),(10,.int .i64 v4_1)]) (fun ((v4_0,v4_1):(TL T_Id)×Int)=>[treeH v4_0]) [(8,_),(9,_)] [treeH y3x0] (X1,0) hp sb ms ?_
 clear hp
 rintro ⟨v4_0,v4_1⟩ x4 hp hx4
 replace hp:=dd hp
 refine kq [3,8,9,10] ?_
 refine s5 ?_
 refine kp [3,8,9,10,11] ?_
 refine W_cond rfl (fun q5=>?_) (fun q5=>?_)
 ·replace hp:=cond_t q5 hp
  refine s5 ?_
  replace hp:=idx_bind hp;obtain ⟨u6,hy6,hp⟩:=hp
  refine L_idxA (X:=y3x0) rfl rfl rfl el139.h (RdT.tree mm) hy6 ?_
  refine L_load0 rfl rfl (RdT.at (RdT.tree mm) (hy6).2) one85.h rfl ?_
  refine s5 ?_
  replace hp:=ba hp;obtain ⟨y8,hy8,hp⟩:=hp
  refine L_appT (X:=v4_0) (Y:=u6) rfl rfl rfl el85.h rfl rfl pk (RdT.of (RdT.tree mm) (hy6).2) hy8 (by decide) (fun X7 hdX7=>?_)
  subst hdX7
  refine s6 ?_
  exact ⟨(X7,IntKind.wrap .i64 (v4_1+1)),sb,(.sub ms),some_eq hp⟩
 ·replace hp:=cond_f q5 hp
  refine W_exit ?_
  replace hp:=map_any hp;obtain ⟨a9,hp,z_9⟩:=hp
  obtain rfl:=hx4 _ z_9
  refine s5 ?_
  obtain rfl:=sj hp
  refine s1 ?_
  refine res1 rfl (ResOK.tmp rfl) ⟨v4_0,rfl,rfl,rfl⟩ ms
end Go.Proofs.SL
