/- The texts of the proof, part 18: the base, walks of functions, plain Lean. -/
import Derived.Test.YtkfgjljahhgooaaGreatT13
import Derived.Test.YtkfgjljahhgooaaGreatT17
import Derived.Test.YtkfgjljahhgooaaGreatT5
namespace Go.Proofs.SL
open Go
section
variable {τ δ:Type} [GT τ δ] [Bk τ] [Bd τ]
theorem bds_app (a b:List δ):bds τ (a++b)=bds τ a+bds τ b:=by
 induction a with
 | nil=>simp [bds]
 | cons x a ih=>simp only [List.cons_append,bds,ih];omega
theorem bds_fil (p:δ→Bool) (l:List δ):bds τ (l.filter p)≤bds τ l:=by
 induction l with
 | nil=>exact Nat.le_refl _
 | cons x l ih =>
  rw [List.filter_cons]
  split
  ·simp only [bds];omega
  ·simp only [bds];omega
theorem bds_set (x:δ):∀ (l:List δ) (k:Nat),bds τ (l.set k x)≤bds τ l+Bd.bd (τ:=τ) x
 | [],_=>by simp [bds]
 | y::l,0=>by simp only [List.set_cons_zero,bds];omega
 | y::l,k+1=>by
  have:=bds_set x l k
  simp only [List.set_cons_succ,bds];omega
theorem bds_all {l:List δ} {n:Nat} (h:∀ x,x∈l→Bd.bd (τ:=τ) x≤n):bds τ l≤l.length*n:=by
 induction l with
 | nil=>simp [bds]
 | cons x l ih =>
  have h1:=h x (List.mem_cons_self ..)
  have h2:=ih fun y hy=>h y (List.mem_cons_of_mem _ hy)
  simp only [bds,List.length_cons,Nat.succ_mul];omega
end
def cmdBd (c:D_Cmd):Nat:=0+(0+(0+(c.2.2.2.1.size+(c.2.2.2.2.1.size+(c.2.2.2.2.2.1.size+(0+(c.2.2.2.2.2.2.2.length+bds ByteArray c.2.2.2.2.2.2.2)))))))
theorem bd_inst' (x:D_Inst):Bd.bd (τ:=T_Inst) x=cmdBd x.2.2.2.2.1+(x.2.2.2.2.2.2.1.length+bds T_Id x.2.2.2.2.2.2.1):=by
 show ((0+0)+(0+(0+(0+(cmdBd x.2.2.2.2.1+(0+((x.2.2.2.2.2.2.1.length+bds T_Id x.2.2.2.2.2.2.1)+0)))))))=_
 omega
theorem bd_lead' (x:D_Lead):Bd.bd (τ:=T_Lead) x=(x.2.2.2.2.1.length+bds T_Id x.2.2.2.2.1)+(x.2.2.2.2.2.1.length+bds Int x.2.2.2.2.2.1):=by
 show ((0+0)+(0+(0+(0+((x.2.2.2.2.1.length+bds T_Id x.2.2.2.2.1)+((x.2.2.2.2.2.1.length+bds Int x.2.2.2.2.2.1)+0))))))=_
 omega
theorem bd_msg' (m:D_EMsg):Bd.bd (τ:=T_EMsg) m=cmdBd m.2.2.2.2.2.1+(m.2.2.2.2.2.2.2.1.length+bds T_Id m.2.2.2.2.2.2.2.1):=by
 show (0+(0+(0+((0+0)+(0+(cmdBd m.2.2.2.2.2.1+(0+((m.2.2.2.2.2.2.2.1.length+bds T_Id m.2.2.2.2.2.2.2.1)+(0+(0+0))))))))))=_
 omega
theorem bd_node' (d:D_ENode):Bd.bd (τ:=T_ENode) d=(d.2.2.1.length+bds T_Inst d.2.2.1)+(d.2.2.2.length+bds T_Lead d.2.2.2):=by
 show 0+(0+((d.2.2.1.length+bds T_Inst d.2.2.1)+(d.2.2.2.length+bds T_Lead d.2.2.2)))=_
 omega
theorem small_node {d:D_ENode} (h:Bd.bd (τ:=T_ENode) d≤1048576):smallN d:=by
 rw [bd_node'] at h
 refine ⟨by omega,fun x hx=>?_,by omega,fun x hx=>?_⟩
 ·have h1:=bds_mem (τ:=T_Inst) hx
  have h2:=bd_inst' x
  unfold cmdBd at h2
  exact ⟨by omega,by omega⟩
 ·have h1:=bds_mem (τ:=T_Lead) hx
  have h2:=bd_lead' x
  exact ⟨by omega,by omega⟩
theorem bd_put (l:List D_Inst) (x:D_Inst):(putI l x).length+bds T_Inst (putI l x)≤2*(l.length+bds T_Inst l)+Bd.bd (τ:=T_Inst) x+1:=by
 have h1:=putI_len l x
 have h2:=bds_fil (τ:=T_Inst) (fun y:D_Inst=>idLt y.1 x.1) l
 have h3:=bds_fil (τ:=T_Inst) (fun y:D_Inst=>idLt x.1 y.1) l
 have h4:bds T_Inst (putI l x)=bds T_Inst (l.filter fun y=>idLt y.1 x.1)+(Bd.bd (τ:=T_Inst) x+bds T_Inst (l.filter fun y=>idLt x.1 y.1)):=by
  unfold putI
  rw [bds_app];rfl
 omega
theorem bd_putLd (ls:List D_Lead) (l:D_Lead):(putLd ls l).length+bds T_Lead (putLd ls l)≤ls.length+bds T_Lead ls+Bd.bd (τ:=T_Lead) l+1:=by
 have h1:=putLd_len ls l
 have h2:bds T_Lead (putLd ls l)≤bds T_Lead ls+Bd.bd (τ:=T_Lead) l:=by
  unfold putLd
  split
  ·exact bds_set l ls _
  ·rw [bds_app]
   show _+(Bd.bd (τ:=T_Lead) l+0)≤_
   omega
 omega
theorem bd_both (me:Int) (m:D_EMsg):(bothD me m).length+bds T_EMsg (bothD me m)≤3+3*Bd.bd (τ:=T_EMsg) m:=by
 have h1:(bothD me m).length≤3:=bothN_len me m 3
 have h2:bds T_EMsg (bothD me m)≤(bothD me m).length*Bd.bd (τ:=T_EMsg) m:=bds_all fun x hx=>by
  unfold bothD bothN at hx
  obtain ⟨t,_,rfl⟩:=List.mem_map.1 hx
  rw [bd_msg',bd_msg']
  exact Nat.le_refl _
 have h3:(bothD me m).length*Bd.bd (τ:=T_EMsg) m≤3*Bd.bd (τ:=T_EMsg) m:=Nat.mul_le_mul_right _ h1
 omega
theorem bd_at (l:List D_Inst) (id:D_Id):Bd.bd (τ:=T_Inst) (atI l id)≤bds T_Inst l:=by
 rcases atI_or l id with q | q
 ·exact bds_mem (τ:=T_Inst) q
 ·rw [q,bd_inst']
  show (0+(0+(0+(0+(0+(0+(0+(0+0))))))))+(0+0)≤_
  omega
theorem bd_zeroN:Bd.bd (τ:=T_ENode) zeroN=0:=rfl
theorem bd_recD (d:D_ENode) (id:D_Id):Bd.bd (τ:=T_ENode) (recD d id).1≤8*Bd.bd (τ:=T_ENode) d+8∧(recD d id).2.1.length+bds T_EMsg (recD d id).2.1≤8*Bd.bd (τ:=T_ENode) d+8:=by
 unfold recD recG
 split
 ·split
  ·refine ⟨by dsimp only;omega,?_⟩
   show 0+0≤_
   omega
  ·have ha:=bd_at d.2.2.1 id
   have hn:=bd_node' d
   generalize atI d.2.2.1 id=x at ha
   generalize recB d.1 x.2.1=b
   have h1:=bd_put d.2.2.1 (recI x b)
   have h2:=bd_putLd d.2.2.2 (zLead id b)
   have h3:=bd_both d.1 (prepM id b)
   have e1:Bd.bd (τ:=T_Inst) (recI x b)=Bd.bd (τ:=T_Inst) x:=by rw [bd_inst',bd_inst'];rfl
   have e2:Bd.bd (τ:=T_Lead) (zLead id b)=0:=rfl
   have e3:Bd.bd (τ:=T_EMsg) (prepM id b)=0:=rfl
   have e4:=bd_node' (d.1,d.2.1,putI d.2.2.1 (recI x b),putLd d.2.2.2 (zLead id b))
   dsimp only at e4 ⊢
   omega
 ·refine ⟨by show Bd.bd (τ:=T_ENode) zeroN≤_;rw [bd_zeroN];omega,?_⟩
  show 0+0≤_
  omega
theorem rec_bk0 (t:T_ENode) (i:T_Id) (g:T_ENode) (h:GT.dat g=(recD (GT.dat t) (GT.dat i)).1):Bk.bulk g≤8*Bk.bulk t+8:=by
 rw [Bd.eq,Bd.eq,h];exact (bd_recD _ _).1
theorem rec_bk1 (t:T_ENode) (i:T_Id) (g:TL T_EMsg) (h:GT.dat g=(recD (GT.dat t) (GT.dat i)).2.1):Bk.bulk g≤8*Bk.bulk t+8:=by
 rw [Bd.eq,Bd.eq,h];exact (bd_recD _ _).2
end Go.Proofs.SL
namespace Go.Proofs.SL
open Go
instance fn25:FnF Tryz.prog 25:=⟨_,Tryz.func25,by kernel_rfl,rfl⟩
instance fn26:FnF Tryz.prog 26:=⟨_,Tryz.func26,by kernel_rfl,rfl⟩
instance agg56:AggF Tryz.prog 56 4:=⟨by kernel_rfl⟩
instance fn20:FnF Tryz.prog 20:=⟨_,Tryz.func20,by kernel_rfl,rfl⟩
instance fn21:FnF Tryz.prog 21:=⟨_,Tryz.func21,by kernel_rfl,rfl⟩
instance fn23:FnF Tryz.prog 23:=⟨_,Tryz.func23,by kernel_rfl,rfl⟩
instance fn24:FnF Tryz.prog 24:=⟨_,Tryz.func24,by kernel_rfl,rfl⟩
instance fn27:FnF Tryz.prog 27:=⟨_,Tryz.func27,by kernel_rfl,rfl⟩
instance fn28:FnF Tryz.prog 28:=⟨_,Tryz.func28,by kernel_rfl,rfl⟩
instance fn18:FnF Tryz.prog 18:=⟨_,Tryz.func18,by kernel_rfl,rfl⟩
instance fn17:FnF Tryz.prog 17:=⟨_,Tryz.func17,by kernel_rfl,rfl⟩
theorem sENodeRecover_spec (w:World) (a0:T_ENode) (a1:T_Id) (h0:GT.rd w [] a0) (h1:GT.rd w [] a1) (ho0:Ok.ok (GT.dat a0)) (ho1:Ok.ok (GT.dat a1)) (hs0:Bd.bd (τ:=T_ENode) (GT.dat a0)≤1048576):Spec Tryz.prog 18 [.agg (GT.cells a0).toArray,.agg (GT.cells a1).toArray].toArray w [] (fun v M=>∃ (x0:T_ENode) (x1:TL T_EMsg),v=.tuple #[.agg (GT.cells x0).toArray,x1.hdr,.bool ((recD (GT.dat a0) (GT.dat a1)).2.2)]∧GT.dat x0=(recD (GT.dat a0) (GT.dat a1)).1∧GT.dat x1=(recD (GT.dat a0) (GT.dat a1)).2.1∧M=[treeH x0,treeH x1]):=(s_ENodeRecover_walk w a0 a1 h0 h1 _ (s_ENodeRecover_eq _ ho0 (small_node hs0))).to fun v M ⟨x0,x1,x2,hv,hd,hM⟩=>by
 obtain rfl:x2=(recD (GT.dat a0) (GT.dat a1)).2.2:=congrArg (fun z=>z.2.2) hd
 exact ⟨x0,x1,hv,congrArg (fun z=>z.1) hd,congrArg (fun z=>z.2.1) hd,hM⟩
theorem iENodeRecover_spec (w:World) (a0:T_ENode) (a1:T_Id) (h0:GT.rd w [] a0) (h1:GT.rd w [] a1) (ho0:Ok.ok (GT.dat a0)) (ho1:Ok.ok (GT.dat a1)) (hs0:Bd.bd (τ:=T_ENode) (GT.dat a0)≤1048576):Spec Tryz.prog 17 [.agg (GT.cells a0).toArray,.agg (GT.cells a1).toArray].toArray w [] (fun v M=>∃ (x0:T_ENode) (x1:TL T_EMsg),v=.tuple #[.agg (GT.cells x0).toArray,x1.hdr,.bool ((recD (GT.dat a0) (GT.dat a1)).2.2)]∧GT.dat x0=(recD (GT.dat a0) (GT.dat a1)).1∧GT.dat x1=(recD (GT.dat a0) (GT.dat a1)).2.1∧M=[treeH x0,treeH x1]):=(i_ENodeRecover_walk w a0 a1 h0 h1 _ (i_ENodeRecover_eq _ ho0 (small_node hs0))).to fun v M ⟨x0,x1,x2,hv,hd,hM⟩=>by
 obtain rfl:x2=(recD (GT.dat a0) (GT.dat a1)).2.2:=congrArg (fun z=>z.2.2) hd
 exact ⟨x0,x1,hv,congrArg (fun z=>z.1) hd,congrArg (fun z=>z.2.1) hd,hM⟩
theorem lawFnExactENodeRecover (w:World) (t1:T_ENode) (t2:T_Id) (h1:GT.rd w [] t1) (h2:GT.rd w [] t2) (ho1:Ok.ok (GT.dat t1)) (ho2:Ok.ok (GT.dat t2)) :Spec Tryz.prog 4 [.agg (GT.cells t1).toArray,.agg (GT.cells t2).toArray].toArray w [] (IsV (.bool true)):=by
 refine Spec.intro Tryz.func4 rfl Tryz.ntmps4 rfl ?_
 refine s2 ?_
 refine bx fun bk2=>?_
 refine bx fun bk3=>?_
 refine s8 ?_
 refine L_loadW rfl rfl (by first | exact RdC.blk mm) (by exact agg56.h) ?_
 refine s1 ?_
 refine L_callX rfl fn20.h rfl (by exact fun w hw=>szENode_spec w t1 (1048576) (by omega) (by omega) (rd_carry h1 hw) ho1) ?_
 refine s8 ?_
 refine kp [2,3,23] ?_
 refine W_cond rfl (fun q3=>?_) (fun q3=>?_)
 ·refine s5 ?_
  refine res1 rfl (ResOK.tmp rfl) ⟨?_,rfl⟩ ms
  rfl
 ·have hb1:(Bk.bulk t1:Int)≤1048576:=by
   rcases Int.decLt (1048576) (Bk.bulk t1:Int) with hn | hn
   ·omega
   ·rw [if_neg (by omega)] at q3;simp at q3
  rw [if_pos hb1]
  refine s2 ?_
  refine W_AP [] 9 6 [.int .i64 0,.int .i64 0,.slice none 0 0,.slice none 0 0] 27 12 mix rfl ?_
  refine AP_A [blk bk3 (Value.agg (GT.cells t2).toArray).cells.toList 57,blk bk2 (Value.agg (GT.cells t1).toArray).cells.toList 56] trivial ?_
  refine AP_take 0 rfl (PU_loadW rfl rfl (RdC.blk mm) (by exact agg56.h)) (by kernel_rfl) (by kernel_rfl) (by kernel_rfl) (by kernel_rfl) (by kernel_rfl) rfl rfl rfl ⟨mm,⟨mm,trivial⟩⟩ ?_
  refine AP_take 2 rfl (PU_loadW rfl rfl (RdC.blk mm) (by exact agg57.h)) (by kernel_rfl) (by kernel_rfl) (by kernel_rfl) (by kernel_rfl) (by kernel_rfl) rfl rfl rfl ⟨mm,⟨mm,trivial⟩⟩ ?_
  refine AP_step 1 rfl rfl (by first | exact .inl (by kernel_rfl) | exact .inr (by kernel_rfl)) (by kernel_rfl) rfl rfl rfl rfl rfl (fun l M=>L_alloc rfl zero27.h (fun b=>L_nil ⟨b,rfl,rfl⟩)) ⟨mm,⟨mm,trivial⟩⟩ (fun fr1=>?_)
  refine L_callR rfl fn21.h rfl (by exact fun w hw=>toENode_spec w _ (rd_carry h1 hw) (by omega)) ?_
  rintro v M1 ⟨n1,hv,hn1,rfl⟩
  subst hv
  simp only [List.cons_append,List.nil_append]
  refine L_nil ⟨_,pk,⟨mm,⟨mm,trivial⟩⟩,rfl,?_⟩
  refine AP_step 3 rfl rfl (by first | exact .inl (by kernel_rfl) | exact .inr (by kernel_rfl)) (by kernel_rfl) rfl rfl rfl rfl rfl (fun l M=>L_alloc rfl zero27.h (fun b=>L_nil ⟨b,rfl,rfl⟩)) ⟨mm,⟨mm,trivial⟩⟩ (fun fr3=>?_)
  refine L_callR rfl fn22.h rfl (by exact fun w hw=>toId_spec w _ (rd_carry h2 hw) (by show 0+0≤1048576;omega)) ?_
  rintro v M1 ⟨n2,hv,hn2,rfl⟩
  subst hv
  simp only [List.cons_append,List.nil_append]
  refine L_nil ⟨_,pk,⟨mm,⟨mm,trivial⟩⟩,rfl,?_⟩
  refine AP_step 4 rfl rfl (by first | exact .inl (by kernel_rfl) | exact .inr (by kernel_rfl)) (by kernel_rfl) rfl rfl rfl rfl rfl (fun l M=>L_alloc rfl zero27.h (fun b=>L_nil ⟨b,rfl,rfl⟩)) ⟨mm,⟨mm,trivial⟩⟩ (fun fr4=>?_)
  refine L_callR rfl fn18.h rfl (by exact fun w hw=>sENodeRecover_spec w n1 n2 (rd_of_tree mm hw.sees) (rd_of_tree mm hw.sees) (by rw [hn1];exact ho1) (by rw [hn2];exact ho2) (by first | (rw [hn1,← Bd.eq];omega) | (rw [← Bd.eq];omega))) ?_
  rintro v M1 ⟨r1_0,r1_1,hv,hr1_0,hr1_1,rfl⟩
  subst hv
  simp only [List.cons_append,List.nil_append]
  refine L_nil ⟨_,pk,⟨mm,⟨mm,trivial⟩⟩,rfl,?_⟩
  refine AP_take 5 rfl (PU_move rfl rfl) (by kernel_rfl) (by kernel_rfl) (by kernel_rfl) (by kernel_rfl) (by kernel_rfl) rfl rfl rfl ⟨mm,⟨mm,trivial⟩⟩ ?_
  refine AP_take 6 rfl (PU_extract (v:=.agg (GT.cells r1_0).toArray) rfl rfl rfl) (by kernel_rfl) (by kernel_rfl) (by kernel_rfl) (by kernel_rfl) (by kernel_rfl) rfl rfl rfl ⟨mm,⟨mm,trivial⟩⟩ ?_
  refine AP_take 7 rfl (PU_extract (v:=(TL.hdr r1_1)) rfl rfl rfl) (by kernel_rfl) (by kernel_rfl) (by kernel_rfl) (by kernel_rfl) (by kernel_rfl) rfl rfl rfl ⟨mm,⟨mm,trivial⟩⟩ ?_
  refine AP_take 8 rfl (PU_extract (v:=.bool ((recD (GT.dat n1) (GT.dat n2)).2.2)) rfl rfl rfl) (by kernel_rfl) (by kernel_rfl) (by kernel_rfl) (by kernel_rfl) (by kernel_rfl) rfl rfl rfl ⟨mm,⟨mm,trivial⟩⟩ ?_
  refine AP_end (by kernel_rfl) rfl rfl (fun l M=>L_alloc rfl zero27.h (fun b=>L_nil ⟨b,rfl,rfl⟩)) ⟨mm,⟨mm,trivial⟩⟩ (fun bk6=>?_)
  refine AH_one 10 rfl rfl (by kernel_rfl) ?_
  refine L_storeW rfl rfl pk (by exact agg27.h) (by rfl) (by first | (simp [Value.oneCell',TL.hdr];done) | (simp [Value.oneCell',TL.hdr,Value.cells];done) | exact fun v hv=>GT.one _ v hv) ?_
  refine L_nil ⟨⟨mm,⟨mm,trivial⟩⟩,?_⟩
  refine AH_one 11 rfl rfl (by kernel_rfl) ?_
  refine s1 ?_
  refine L_nil ⟨⟨mm,⟨mm,trivial⟩⟩,?_⟩
  refine AH_one 12 rfl rfl (by kernel_rfl) ?_
  refine s1 ?_
  refine L_nil ⟨⟨mm,⟨mm,trivial⟩⟩,?_⟩
  refine AH_done (by kernel_rfl) ?_
  refine s2 ?_
  refine L_loadW rfl rfl (by first | exact RdC.blk mm) (by exact agg56.h) ?_
  refine L_callR rfl fn21.h rfl (by exact fun w hw=>toENode_spec w _ (rd_carry h1 hw) (by omega)) ?_
  rintro v M1 ⟨n3,hv,hn3,rfl⟩
  subst hv
  simp only [List.cons_append,List.nil_append]
  refine al fun bk9=>?_
  refine L_storeW rfl rfl pk (by exact agg27.h) (by rfl) (by first | (simp [Value.oneCell',TL.hdr];done) | (simp [Value.oneCell',TL.hdr,Value.cells];done) | exact fun v hv=>GT.one _ v hv) ?_
  refine s2 ?_
  refine W_AP [] 8 10 [.int .i64 0,.int .i64 0,.slice none 0 0,.slice none 0 0] 27 11 mix rfl ?_
  refine AP_A [blk bk3 (Value.agg (GT.cells t2).toArray).cells.toList 57,blk bk9 (GT.cells n3) 27] trivial ?_
  refine AP_take 0 rfl (PU_loadW rfl rfl (RdC.blk mm) (by exact agg27.h)) (by kernel_rfl) (by kernel_rfl) (by kernel_rfl) (by kernel_rfl) (by kernel_rfl) rfl rfl rfl ⟨mm,⟨mm,trivial⟩⟩ ?_
  refine AP_take 1 rfl (PU_loadW rfl rfl (RdC.blk mm) (by exact agg57.h)) (by kernel_rfl) (by kernel_rfl) (by kernel_rfl) (by kernel_rfl) (by kernel_rfl) rfl rfl rfl ⟨mm,⟨mm,trivial⟩⟩ ?_
  refine AP_step 2 rfl rfl (by first | exact .inl (by kernel_rfl) | exact .inr (by kernel_rfl)) (by kernel_rfl) rfl rfl rfl rfl rfl (fun l M=>L_alloc rfl zero27.h (fun b=>L_nil ⟨b,rfl,rfl⟩)) ⟨mm,⟨mm,trivial⟩⟩ (fun fr2=>?_)
  refine L_callR rfl fn22.h rfl (by exact fun w hw=>toId_spec w _ (rd_carry h2 hw) (by show 0+0≤1048576;omega)) ?_
  rintro v M1 ⟨n4,hv,hn4,rfl⟩
  subst hv
  simp only [List.cons_append,List.nil_append]
  refine L_nil ⟨_,pk,⟨mm,⟨mm,trivial⟩⟩,rfl,?_⟩
  refine AP_step 3 rfl rfl (by first | exact .inl (by kernel_rfl) | exact .inr (by kernel_rfl)) (by kernel_rfl) rfl rfl rfl rfl rfl (fun l M=>L_alloc rfl zero27.h (fun b=>L_nil ⟨b,rfl,rfl⟩)) ⟨mm,⟨mm,trivial⟩⟩ (fun fr3=>?_)
  refine L_callR rfl fn17.h rfl (by exact fun w hw=>iENodeRecover_spec w n3 n4 (rd_of_tree mm hw.sees) (rd_of_tree mm hw.sees) (by rw [hn3];exact ho1) (by rw [hn4];exact ho2) (by first | (rw [hn3,← Bd.eq];omega) | (rw [← Bd.eq];omega))) ?_
  rintro v M1 ⟨r2_0,r2_1,hv,hr2_0,hr2_1,rfl⟩
  subst hv
  simp only [List.cons_append,List.nil_append]
  refine L_nil ⟨_,pk,⟨mm,⟨mm,trivial⟩⟩,rfl,?_⟩
  refine AP_take 4 rfl (PU_move rfl rfl) (by kernel_rfl) (by kernel_rfl) (by kernel_rfl) (by kernel_rfl) (by kernel_rfl) rfl rfl rfl ⟨mm,⟨mm,trivial⟩⟩ ?_
  refine AP_take 5 rfl (PU_extract (v:=.agg (GT.cells r2_0).toArray) rfl rfl rfl) (by kernel_rfl) (by kernel_rfl) (by kernel_rfl) (by kernel_rfl) (by kernel_rfl) rfl rfl rfl ⟨mm,⟨mm,trivial⟩⟩ ?_
  refine AP_take 6 rfl (PU_extract (v:=(TL.hdr r2_1)) rfl rfl rfl) (by kernel_rfl) (by kernel_rfl) (by kernel_rfl) (by kernel_rfl) (by kernel_rfl) rfl rfl rfl ⟨mm,⟨mm,trivial⟩⟩ ?_
  refine AP_take 7 rfl (PU_extract (v:=.bool ((recD (GT.dat n3) (GT.dat n4)).2.2)) rfl rfl rfl) (by kernel_rfl) (by kernel_rfl) (by kernel_rfl) (by kernel_rfl) (by kernel_rfl) rfl rfl rfl ⟨mm,⟨mm,trivial⟩⟩ ?_
  refine AP_end (by kernel_rfl) rfl rfl (fun l M=>L_alloc rfl zero27.h (fun b=>L_nil ⟨b,rfl,rfl⟩)) ⟨mm,⟨mm,trivial⟩⟩ (fun bk10=>?_)
  refine AH_one 9 rfl rfl (by kernel_rfl) ?_
  refine L_storeW rfl rfl pk (by exact agg27.h) (by rfl) (by first | (simp [Value.oneCell',TL.hdr];done) | (simp [Value.oneCell',TL.hdr,Value.cells];done) | exact fun v hv=>GT.one _ v hv) ?_
  refine L_nil ⟨⟨mm,⟨mm,trivial⟩⟩,?_⟩
  refine AH_one 10 rfl rfl (by kernel_rfl) ?_
  refine s1 ?_
  refine L_nil ⟨⟨mm,⟨mm,trivial⟩⟩,?_⟩
  refine AH_one 11 rfl rfl (by kernel_rfl) ?_
  refine s1 ?_
  refine L_nil ⟨⟨mm,⟨mm,trivial⟩⟩,?_⟩
  refine AH_done (by kernel_rfl) ?_
  refine s2 ?_
  refine W_D0 [57] mix (by kernel_rfl) rfl ?_
  refine D_loadW GC.none (OpV.t rfl) (fun hg=>(by first | exact RdC.blk mm)) (by exact agg27.h) ?_
  refine D_loadW GC.none (OpV.t rfl) (fun hg=>(by first | exact RdC.blk mm)) (by exact agg27.h) ?_
  refine D_callX GC.none fn23.h (OpVs.cons (OpV.t rfl) (OpVs.cons (OpV.t rfl) (OpVs.nil))) (by exact fun hg w F hF hM=>eqENode_spec w r2_0 r1_0 (rd_of_tree (hM _ mm) hF.sees) (rd_of_tree (hM _ mm) hF.sees)) ?_
  refine s4 ?_
  refine D_callX (GC.some rfl rfl) fn24.h (OpVs.cons (OpV.s rfl) (OpVs.cons (OpV.s rfl) (OpVs.nil))) (by exact fun hg w F hF hM=>eqEMsgS_spec w r2_1 r1_1 (rd_of_tree (hM _ mm) hF.sees) (rd_of_tree (hM _ mm) hF.sees)) ?_
  refine s20 ?_
  refine s4 ?_
  refine kp [2,3,6,7,8,9,10,11,12,57] ?_
  refine W_cond rfl (fun q8=>?_) (fun q8=>?_)
  ·refine s5 ?_
   refine res1 rfl (ResOK.tmp rfl) ⟨?_,rfl⟩ ms
   exfalso
   have hx2:eqB (GT.dat r2_0) (GT.dat r1_0)=true:=eqB_true.2 (by simp only [hn1,hn2,hr1_0,hr1_1,hn3,hn4,hr2_0,hr2_1])
   have hx7:eqB (GT.dat r2_1) (GT.dat r1_1)=true:=eqB_true.2 (by simp only [hn1,hn2,hr1_0,hr1_1,hn3,hn4,hr2_0,hr2_1])
   simp [hx2,hx7,hn1,hn2,hn3,hn4] at q8<;>omega
  ·refine s3 ?_
   refine W_D0 [62] mix (by kernel_rfl) rfl ?_
   refine D_loadW GC.none (OpV.t rfl) (fun hg=>(by first | exact RdC.blk mm)) (by exact agg27.h) ?_
   refine D_loadW GC.none (OpV.t rfl) (fun hg=>(by first | exact RdC.blk mm)) (by exact agg56.h) ?_
   refine D_call1R (fun v M=>∃ m:T_ENode,v=.agg (GT.cells m).toArray∧GT.dat m=GT.dat t1∧M=[treeH m]) fn21.h (OpVs.cons (OpV.t rfl) (OpVs.nil)) (by exact fun w F hF hM=>(fun w hw=>toENode_spec w _ (rd_carry h1 hw) (by omega)) w hF) ?_
   refine D_callR [_,_] (FC True (.bool true)) fn23.h ⟨⟨_,rfl,fun _ _ h=>h⟩,⟨_,rfl,fun _ _ h=>h⟩,trivial⟩ (by
    rintro w F vs hw hM ⟨v1,u1,M1,rfl,⟨rfl,hx1,_⟩,_,v2,u2,M2,rfl,⟨m2,rfl,hd2x,rfl⟩,hin,rfl⟩
    obtain rfl:=hx1 trivial
    have h:=eqENode_spec w n3 m2 (rd_of_tree (hM _ mm) hw.sees) (rd_of_tree (hin _ (List.mem_singleton.2 rfl)) hw.sees)
    rw [eqB_true.2 (hn3.trans hd2x.symm)] at h
    exact h.toFC) ?_
   refine s8 ?_
   refine kp [2,3,6,7,8,9,10,11,12,62] ?_
   refine W_condF rfl ?_
   refine s6 ?_
   have hc_n3:Mv.cnt n3≤1000000000000:=cntv_le n3 rfl (by rw [bulk_dat hn3];omega)
   refine s1 ?_
   refine L_loadW rfl rfl (by first | exact RdC.blk mm) (by exact agg27.h) ?_
   refine s1 ?_
   refine L_call1 (h:=treeH n3) rfl fn25.h rfl pk (by exact fun w hw=>markENode_spec w n3 1 (by omega) (by omega)) ?_
   rintro v M1 ⟨hv,rfl⟩
   subst hv
   simp only [List.cons_append,List.nil_append]
   refine s4 ?_
   refine W_D0 [84] mix (by kernel_rfl) rfl ?_
   refine s3 ?_
   refine D_loadW (GC.some rfl rfl) (OpV.t rfl) (fun hg=>(by first | exact RdC.blk mm)) (by exact agg27.h) ?_
   refine D_loadW (GC.some rfl rfl) (OpV.t rfl) (fun hg=>(by first | exact RdC.blk mm)) (by exact agg27.h) ?_
   refine D_callX (GC.some rfl rfl) fn23.h (OpVs.cons (OpV.s rfl) (OpVs.cons (OpV.s rfl) (OpVs.nil))) (by exact fun hg w F hF hM=>eqENode_spec w r2_0 r1_0 (rd_of_tree (hM _ mm) hF.sees) (rd_of_tree (hM _ mm) hF.sees)) ?_
   refine s5 ?_
   refine D_callX (GC.some rfl rfl) fn24.h (OpVs.cons (OpV.s rfl) (OpVs.cons (OpV.s rfl) (OpVs.nil))) (by exact fun hg w F hF hM=>eqEMsgS_spec w r2_1 r1_1 (rd_of_tree (hM _ mm) hF.sees) (rd_of_tree (hM _ mm) hF.sees)) ?_
   refine s20 ?_
   refine s8 ?_
   refine kp [2,3,6,7,8,10,11,84] ?_
   refine W_cond rfl (fun q14=>?_) (fun q14=>?_)
   ·refine s5 ?_
    refine res1 rfl (ResOK.tmp rfl) ⟨?_,rfl⟩ ms
    exfalso
    have hx5:eqB (GT.dat r2_0) (GT.dat r1_0)=true:=eqB_true.2 (by simp only [hn1,hn2,hr1_0,hr1_1,hn3,hn4,hr2_0,hr2_1])
    have hx11:eqB (GT.dat r2_1) (GT.dat r1_1)=true:=eqB_true.2 (by simp only [hn1,hn2,hr1_0,hr1_1,hn3,hn4,hr2_0,hr2_1])
    simp [hx5,hx11,hn1,hn2,hn3,hn4] at q14<;>omega
   ·refine s6 ?_
    have hc_r2_0:Mv.cnt r2_0≤1000000000000:=cntv_le r2_0 rfl (by have:=rec_bk0 _ _ _ hr2_0;(first | rw [bulk_dat hn1] at this | rw [bulk_dat hn2] at this | rw [bulk_dat hn3] at this | rw [bulk_dat hn4] at this | rw [bulk_dat hn5] at this | rw [bulk_dat hn6] at this | rw [bulk_dat hn7] at this | rw [bulk_dat hn8] at this | rw [bulk_dat hn9] at this | rw [bulk_dat hn10] at this | rw [bulk_dat hn11] at this);omega)
    refine s1 ?_
    refine L_loadW rfl rfl (by first | exact RdC.blk mm) (by exact agg27.h) ?_
    refine s1 ?_
    refine L_call1 (h:=treeH r2_0) rfl fn25.h rfl pk (by exact fun w hw=>markENode_spec w r2_0 1 (by omega) (by omega)) ?_
    rintro v M1 ⟨hv,rfl⟩
    subst hv
    simp only [List.cons_append,List.nil_append]
    refine s3 ?_
    have hc_r2_1:Mk.cnt r2_1≤1000000000000:=cntk_le r2_1 rfl (by have:=rec_bk1 _ _ _ hr2_1;(first | rw [bulk_dat hn1] at this | rw [bulk_dat hn2] at this | rw [bulk_dat hn3] at this | rw [bulk_dat hn4] at this | rw [bulk_dat hn5] at this | rw [bulk_dat hn6] at this | rw [bulk_dat hn7] at this | rw [bulk_dat hn8] at this | rw [bulk_dat hn9] at this | rw [bulk_dat hn10] at this | rw [bulk_dat hn11] at this);omega)
    refine s3 ?_
    refine L_call1 (h:=treeH r2_1) rfl fn26.h rfl pk (by exact fun w hw=>markEMsgS_spec w r2_1 (1+Mv.cnt r2_0) (by omega) (by omega)) ?_
    rintro v M1 ⟨hv,rfl⟩
    subst hv
    simp only [List.cons_append,List.nil_append]
    refine s8 ?_
    refine L_loadW rfl rfl (by first | exact RdC.blk mm) (by exact agg27.h) ?_
    refine s1 ?_
    refine L_callX rfl fn27.h rfl (by exact fun w hw=>(by have h:=heldENode_spec w r2_0 1 (by omega) (by omega) (rd_of_tree mm hw.sees);rw [Cv.eq] at h;exact h)) ?_
    refine s8 ?_
    refine kp [2,3,6,7,8,10,11,14,15,95] ?_
    refine W_cond rfl (fun q21=>?_) (fun q21=>?_)
    ·refine s5 ?_
     refine res1 rfl (ResOK.tmp rfl) ⟨?_,rfl⟩ ms
     exfalso
     simp [hn1,hn2,hn3,hn4] at q21<;>omega
    ·refine s5 ?_
     refine L_callX rfl fn28.h rfl (by exact fun w hw=>(by have h:=heldEMsgS_spec w r2_1 (1+Mv.cnt r2_0) (by omega) (by omega) (rd_of_tree mm hw.sees);rw [hdr_mk] at h;exact h)) ?_
     refine s8 ?_
     refine kp [2,3,6,7,8,10,11,14,15,100] ?_
     refine W_cond rfl (fun q24=>?_) (fun q24=>?_)
     ·refine s5 ?_
      refine res1 rfl (ResOK.tmp rfl) ⟨?_,rfl⟩ ms
      exfalso
      simp [hn1,hn2,hn3,hn4] at q24<;>omega
     ·refine s8 ?_
      refine kp [2,3,6,7,8,10,11,14,103] ?_
      refine W_cond rfl (fun q26=>?_) (fun q26=>?_)
      ·refine s5 ?_
       refine res1 rfl (ResOK.tmp rfl) ⟨?_,rfl⟩ ms
       exfalso
       simp [hn1,hn2,hn3,hn4] at q26<;>omega
      ·refine s2 ?_
       refine W_AP [] 9 16 [.int .i64 0,.int .i64 0,.slice none 0 0,.slice none 0 0] 27 12 mix rfl ?_
       refine AP_A [blk bk3 (Value.agg (GT.cells t2).toArray).cells.toList 57,blk bk2 (Value.agg (GT.cells t1).toArray).cells.toList 56] trivial ?_
       refine AP_take 0 rfl (PU_loadW rfl rfl (RdC.blk mm) (by exact agg56.h)) (by kernel_rfl) (by kernel_rfl) (by kernel_rfl) (by kernel_rfl) (by kernel_rfl) rfl rfl rfl ⟨mm,⟨mm,trivial⟩⟩ ?_
       refine AP_take 2 rfl (PU_loadW rfl rfl (RdC.blk mm) (by exact agg57.h)) (by kernel_rfl) (by kernel_rfl) (by kernel_rfl) (by kernel_rfl) (by kernel_rfl) rfl rfl rfl ⟨mm,⟨mm,trivial⟩⟩ ?_
       refine AP_step 1 rfl rfl (by first | exact .inl (by kernel_rfl) | exact .inr (by kernel_rfl)) (by kernel_rfl) rfl rfl rfl rfl rfl (fun l M=>L_alloc rfl zero27.h (fun b=>L_nil ⟨b,rfl,rfl⟩)) ⟨mm,⟨mm,trivial⟩⟩ (fun fr1=>?_)
       refine L_callR rfl fn21.h rfl (by exact fun w hw=>toENode_spec w _ (rd_carry h1 hw) (by omega)) ?_
       rintro v M1 ⟨n5,hv,hn5,rfl⟩
       subst hv
       simp only [List.cons_append,List.nil_append]
       refine L_nil ⟨_,pk,⟨mm,⟨mm,trivial⟩⟩,rfl,?_⟩
       refine AP_step 3 rfl rfl (by first | exact .inl (by kernel_rfl) | exact .inr (by kernel_rfl)) (by kernel_rfl) rfl rfl rfl rfl rfl (fun l M=>L_alloc rfl zero27.h (fun b=>L_nil ⟨b,rfl,rfl⟩)) ⟨mm,⟨mm,trivial⟩⟩ (fun fr3=>?_)
       refine L_callR rfl fn22.h rfl (by exact fun w hw=>toId_spec w _ (rd_carry h2 hw) (by show 0+0≤1048576;omega)) ?_
       rintro v M1 ⟨n6,hv,hn6,rfl⟩
       subst hv
       simp only [List.cons_append,List.nil_append]
       refine L_nil ⟨_,pk,⟨mm,⟨mm,trivial⟩⟩,rfl,?_⟩
       refine AP_step 4 rfl rfl (by first | exact .inl (by kernel_rfl) | exact .inr (by kernel_rfl)) (by kernel_rfl) rfl rfl rfl rfl rfl (fun l M=>L_alloc rfl zero27.h (fun b=>L_nil ⟨b,rfl,rfl⟩)) ⟨mm,⟨mm,trivial⟩⟩ (fun fr4=>?_)
       refine L_callR rfl fn17.h rfl (by exact fun w hw=>iENodeRecover_spec w n5 n6 (rd_of_tree mm hw.sees) (rd_of_tree mm hw.sees) (by rw [hn5];exact ho1) (by rw [hn6];exact ho2) (by first | (rw [hn5,← Bd.eq];omega) | (rw [← Bd.eq];omega))) ?_
       rintro v M1 ⟨r3_0,r3_1,hv,hr3_0,hr3_1,rfl⟩
       subst hv
       simp only [List.cons_append,List.nil_append]
       refine L_nil ⟨_,pk,⟨mm,⟨mm,trivial⟩⟩,rfl,?_⟩
       refine AP_take 5 rfl (PU_move rfl rfl) (by kernel_rfl) (by kernel_rfl) (by kernel_rfl) (by kernel_rfl) (by kernel_rfl) rfl rfl rfl ⟨mm,⟨mm,trivial⟩⟩ ?_
       refine AP_take 6 rfl (PU_extract (v:=.agg (GT.cells r3_0).toArray) rfl rfl rfl) (by kernel_rfl) (by kernel_rfl) (by kernel_rfl) (by kernel_rfl) (by kernel_rfl) rfl rfl rfl ⟨mm,⟨mm,trivial⟩⟩ ?_
       refine AP_take 7 rfl (PU_extract (v:=(TL.hdr r3_1)) rfl rfl rfl) (by kernel_rfl) (by kernel_rfl) (by kernel_rfl) (by kernel_rfl) (by kernel_rfl) rfl rfl rfl ⟨mm,⟨mm,trivial⟩⟩ ?_
       refine AP_take 8 rfl (PU_extract (v:=.bool ((recD (GT.dat n5) (GT.dat n6)).2.2)) rfl rfl rfl) (by kernel_rfl) (by kernel_rfl) (by kernel_rfl) (by kernel_rfl) (by kernel_rfl) rfl rfl rfl ⟨mm,⟨mm,trivial⟩⟩ ?_
       refine AP_end (by kernel_rfl) rfl rfl (fun l M=>L_alloc rfl zero27.h (fun b=>L_nil ⟨b,rfl,rfl⟩)) ⟨mm,⟨mm,trivial⟩⟩ (fun bk16=>?_)
       refine AH_one 10 rfl rfl (by kernel_rfl) ?_
       refine L_storeW rfl rfl pk (by exact agg27.h) (by rfl) (by first | (simp [Value.oneCell',TL.hdr];done) | (simp [Value.oneCell',TL.hdr,Value.cells];done) | exact fun v hv=>GT.one _ v hv) ?_
       refine L_nil ⟨⟨mm,⟨mm,trivial⟩⟩,?_⟩
       refine AH_one 11 rfl rfl (by kernel_rfl) ?_
       refine s1 ?_
       refine L_nil ⟨⟨mm,⟨mm,trivial⟩⟩,?_⟩
       refine AH_one 12 rfl rfl (by kernel_rfl) ?_
       refine s1 ?_
       refine L_nil ⟨⟨mm,⟨mm,trivial⟩⟩,?_⟩
       refine AH_done (by kernel_rfl) ?_
       refine s2 ?_
       refine W_D0 [127] mix (by kernel_rfl) rfl ?_
       refine D_loadW GC.none (OpV.t rfl) (fun hg=>(by first | exact RdC.blk mm)) (by exact agg27.h) ?_
       refine D_loadW GC.none (OpV.t rfl) (fun hg=>(by first | exact RdC.blk mm)) (by exact agg27.h) ?_
       refine D_callX GC.none fn23.h (OpVs.cons (OpV.t rfl) (OpVs.cons (OpV.t rfl) (OpVs.nil))) (by exact fun hg w F hF hM=>eqENode_spec w r3_0 r1_0 (rd_of_tree (hM _ mm) hF.sees) (rd_of_tree (hM _ mm) hF.sees)) ?_
       refine s4 ?_
       refine D_callX (GC.some rfl rfl) fn24.h (OpVs.cons (OpV.s rfl) (OpVs.cons (OpV.s rfl) (OpVs.nil))) (by exact fun hg w F hF hM=>eqEMsgS_spec w r3_1 r1_1 (rd_of_tree (hM _ mm) hF.sees) (rd_of_tree (hM _ mm) hF.sees)) ?_
       refine s20 ?_
       refine s4 ?_
       refine kp [10,11,14,127] ?_
       refine W_cond rfl (fun q29=>?_) (fun q29=>?_)
       ·refine s5 ?_
        refine res1 rfl (ResOK.tmp rfl) ⟨?_,rfl⟩ ms
        exfalso
        have hx2:eqB (GT.dat r3_0) (GT.dat r1_0)=true:=eqB_true.2 (by simp only [hn1,hn2,hr1_0,hr1_1,hn3,hn4,hr2_0,hr2_1,hn5,hn6,hr3_0,hr3_1])
        have hx7:eqB (GT.dat r3_1) (GT.dat r1_1)=true:=eqB_true.2 (by simp only [hn1,hn2,hr1_0,hr1_1,hn3,hn4,hr2_0,hr2_1,hn5,hn6,hr3_0,hr3_1])
        simp [hx2,hx7,hn1,hn2,hn3,hn4,hn5,hn6] at q29<;>omega
       ·refine s7 ?_
        refine L_loadW rfl rfl (by first | exact RdC.blk mm) (by exact agg27.h) ?_
        refine s1 ?_
        refine L_callX rfl fn27.h rfl (by exact fun w hw=>(by have h:=heldENode_spec w r2_0 1 (by omega) (by omega) (rd_of_tree mm hw.sees);rw [Cv.eq] at h;exact h)) ?_
        refine s8 ?_
        refine kp [11,14,15,132] ?_
        refine W_cond rfl (fun q33=>?_) (fun q33=>?_)
        ·refine s5 ?_
         refine res1 rfl (ResOK.tmp rfl) ⟨?_,rfl⟩ ms
         exfalso
         simp [hn1,hn2,hn3,hn4,hn5,hn6] at q33<;>omega
        ·refine s5 ?_
         refine L_callX rfl fn28.h rfl (by exact fun w hw=>(by have h:=heldEMsgS_spec w r2_1 (1+Mv.cnt r2_0) (by omega) (by omega) (rd_of_tree mm hw.sees);rw [hdr_mk] at h;exact h)) ?_
         refine s8 ?_
         refine kp [14,15,137] ?_
         refine W_cond rfl (fun q36=>?_) (fun q36=>?_)
         ·refine s5 ?_
          refine res1 rfl (ResOK.tmp rfl) ⟨?_,rfl⟩ ms
          exfalso
          simp [hn1,hn2,hn3,hn4,hn5,hn6] at q36<;>omega
         ·refine s8 ?_
          refine kp [140] ?_
          refine W_cond rfl (fun q38=>?_) (fun q38=>?_)
          ·refine s5 ?_
           refine res1 rfl (ResOK.tmp rfl) ⟨?_,rfl⟩ ms
           exfalso
           simp [hn1,hn2,hn3,hn4,hn5,hn6] at q38<;>omega
          ·refine s6 ?_
           refine res1 rfl (ResOK.tmp rfl) ⟨?_,rfl⟩ ms
           rfl
end Go.Proofs.SL
