/- The texts of the proof, part 21: the base, walks of functions, plain Lean. -/
import Derived.Test.YtipncebebegacaaGreatRows
import Derived.Test.YtipncebebegacaaGreatT20
import Derived.Test.YtipncebebegacaaGreatT6
import Derived.Test.YtipncebebegacaaGreatT7
namespace Go.Proofs.SL
open Go
set_option maxHeartbeats 2000000
instance fld98_0:FldF Tryz.prog 98 0 0:=⟨by kernel_rfl⟩
instance fld98_1:FldF Tryz.prog 98 1 1:=⟨by kernel_rfl⟩
instance fn134:FnF Tryz.prog 134:=⟨⟨_,Tryz.func134,by kernel_rfl,rfl⟩⟩
instance el100:ElF Tryz.prog 100 98 2 16 [.int .i64 0,.int .i64 0]:=⟨by kernel_rfl⟩
instance agg98:AggF Tryz.prog 98 2:=⟨by kernel_rfl⟩
instance fn116:FnF Tryz.prog 116:=⟨⟨_,Tryz.func116,by kernel_rfl,rfl⟩⟩
instance fn199:FnF Tryz.prog 199:=⟨⟨_,Tryz.func199,by kernel_rfl,rfl⟩⟩
instance fld99_3:FldF Tryz.prog 99 3 3:=⟨by kernel_rfl⟩
instance fld99_4:FldF Tryz.prog 99 4 4:=⟨by kernel_rfl⟩
instance fld99_5:FldF Tryz.prog 99 5 5:=⟨by kernel_rfl⟩
instance fld99_7:FldF Tryz.prog 99 7 7:=⟨by kernel_rfl⟩
instance fn170:FnF Tryz.prog 170:=⟨⟨_,Tryz.func170,by kernel_rfl,rfl⟩⟩
instance fld99_0:FldF Tryz.prog 99 0 0:=⟨by kernel_rfl⟩
instance fld99_1:FldF Tryz.prog 99 1 1:=⟨by kernel_rfl⟩
instance fld99_2:FldF Tryz.prog 99 2 2:=⟨by kernel_rfl⟩
instance fld99_6:FldF Tryz.prog 99 6 6:=⟨by kernel_rfl⟩
instance fn178:FnF Tryz.prog 178:=⟨⟨_,Tryz.func178,by kernel_rfl,rfl⟩⟩
instance fn40:FnF Tryz.prog 40:=⟨⟨_,Tryz.func40,by kernel_rfl,rfl⟩⟩
theorem eqId_spec (w:World) (t1 t2:T_Id) (h1:GT.rd w [] t1) (h2:GT.rd w [] t2):Spec Tryz.prog 134 [.agg (GT.cells t1).toArray,.agg (GT.cells t2).toArray].toArray w [] (IsV (.bool (eqB (GT.dat t1) (GT.dat t2)))):=by
 obtain ⟨a1,a2⟩:=t1
 obtain ⟨b1,b2⟩:=t2
 change Spec _ _ [Value.agg #[.int .i64 a1,.int .i64 a2],Value.agg #[.int .i64 b1,.int .i64 b2]].toArray w [] _
 refine Spec.intro Tryz.func134 rfl Tryz.ntmps134 rfl ?_
 refine s2 ?_
 refine bx fun bk2=>?_
 refine bx fun bk3=>?_
 refine s6 ?_
 refine L_load rfl rfl (by first | exact RdC.blk mm) one3.h rfl ?_
 refine s1 ?_
 refine L_load rfl rfl (by first | exact RdC.blk mm) one3.h rfl ?_
 refine s2 ?_
 refine kp [2,3,9] ?_
 refine W_cond rfl (fun hc1=>?_) (fun hc1=>?_)
 ·refine s5 ?_
  refine res1 rfl (ResOK.tmp rfl) ⟨?_,rfl⟩ ms
  clear h1 h2
  first
   | (refine congrArg Value.bool (Eq.symm (eqB_false.2 fun e=>?_));try simp only [dat_pair,dat_int,dat_bool,dat_str,Prod.mk.injEq] at e;simp_all;done)
   | (refine congrArg Value.bool (Eq.symm (eqB_true.2 ?_));try simp only [dat_pair,dat_int,dat_bool,dat_str,Prod.mk.injEq];simp_all;done)
 ·refine s5 ?_
  refine L_load rfl rfl (by first | exact RdC.blk mm) one3.h rfl ?_
  refine s1 ?_
  refine L_load rfl rfl (by first | exact RdC.blk mm) one3.h rfl ?_
  refine s2 ?_
  refine kp [14] ?_
  refine W_cond rfl (fun hc3=>?_) (fun hc3=>?_)
  ·refine s5 ?_
   refine res1 rfl (ResOK.tmp rfl) ⟨?_,rfl⟩ ms
   clear h1 h2
   first
    | (refine congrArg Value.bool (Eq.symm (eqB_false.2 fun e=>?_));try simp only [dat_pair,dat_int,dat_bool,dat_str,Prod.mk.injEq] at e;simp_all;done)
    | (refine congrArg Value.bool (Eq.symm (eqB_true.2 ?_));try simp only [dat_pair,dat_int,dat_bool,dat_str,Prod.mk.injEq];simp_all;done)
  ·refine s6 ?_
   refine res1 rfl (ResOK.tmp rfl) ⟨?_,rfl⟩ ms
   clear h1 h2
   first
    | (refine congrArg Value.bool (Eq.symm (eqB_false.2 fun e=>?_));try simp only [dat_pair,dat_int,dat_bool,dat_str,Prod.mk.injEq] at e;simp_all;done)
    | (refine congrArg Value.bool (Eq.symm (eqB_true.2 ?_));try simp only [dat_pair,dat_int,dat_bool,dat_str,Prod.mk.injEq];simp_all;done)
theorem toId_spec (w:World) (t1:T_Id) (h1:GT.rd w [] t1) (hb:Bk.bulk t1≤1048576):Spec Tryz.prog 116 [.agg (GT.cells t1).toArray].toArray w [] (fun v M=>∃ t2:T_Id,v=.agg (GT.cells t2).toArray∧GT.dat t2=GT.dat t1∧M=[treeH t2]):=by
 obtain ⟨a1,a2⟩:=t1
 change Spec _ _ [Value.agg #[.int .i64 a1,.int .i64 a2]].toArray w [] _
 refine Spec.intro Tryz.func116 rfl Tryz.ntmps116 rfl ?_
 refine s2 ?_
 refine bx fun bk1=>?_
 refine al fun bk2=>?_
 refine s3 ?_
 refine al fun bk3=>?_
 refine s4 ?_
 refine L_load rfl rfl (by first | exact RdC.blk mm) one3.h rfl ?_
 refine s6 ?_
 refine L_load rfl rfl (by first | exact RdC.blk mm) one3.h rfl ?_
 refine s5 ?_
 refine L_loadW rfl rfl (by first | exact RdC.blk mm) (by exact agg92.h) ?_
 refine L_storeW rfl rfl pk (by exact agg92.h) (by rfl) (by first | (simp [Value.oneCell',TL.hdr];done) | (simp [Value.oneCell',TL.hdr,Value.cells];done) | exact fun v hv=>GT.one _ v hv) ?_
 refine s1 ?_
 refine W_conv (M':=treeH ((a1,a2):T_Id)::_) (fun w h=>(tree_snd (flat_int (h1.1)) (h.addFlat (flat_int (h1.2))))) ?_
 refine s1 ?_
 refine res1 rfl (ResOK.cell rfl mm (by exact agg92.h)) ⟨(a1,a2),rfl,by simp only [dat_pair],rfl⟩ ms
theorem eqIdS_spec (w:World) (t1 t2:TL T_Id) (h1:GT.rd w [] t1) (h2:GT.rd w [] t2):Spec Tryz.prog 136 [t1.hdr,t2.hdr].toArray w [] (IsV (.bool (eqB (GT.dat t1) (GT.dat t2)))):=by
 obtain ⟨a1,c1,e1,x1,y1⟩:=t1
 obtain ⟨a2,c2,e2,x2,y2⟩:=t2
 have hm1:x1.length≤9223372036854775807:=rd_len h1
 have hm2:x2.length≤9223372036854775807:=rd_len h2
 dsimp only [TL.hdr]
 refine Spec.intro Tryz.func136 rfl Tryz.ntmps136 rfl ?_
 refine s8 ?_
 refine L_lenS rfl rfl el85.h ?_
 refine s1 ?_
 refine L_lenS rfl rfl el85.h ?_
 refine s2 ?_
 refine kp [0,1,10] ?_
 refine W_cond rfl (fun hc1=>?_) (fun hc1=>?_)
 ·refine s5 ?_
  refine res1 rfl (ResOK.tmp rfl) ⟨?_,rfl⟩ ms
  refine congrArg Value.bool (Eq.symm (eqB_false.2 fun e=>?_))
  simp at hc1
  exact hc1 (by have:=congrArg List.length e;simp [dat_TL] at this;omega)
 ·have hl:x1.length=x2.length:=by simp at hc1;omega
  refine s7 ?_
  refine W_loopC (σ:=Nat) 0 (fun (k:Nat)=>[(5,.int .i64 (k:Int))]) (fun (k:Nat)=>[]) (fun (k:Nat)=>k≤x1.length∧(x1.map GT.dat).take k=(x2.map GT.dat).take k) (fun (k:Nat)=>x1.length - k) [(0,_),(1,_)] [] ?_ sb ms ?_
  ·exact ⟨Nat.zero_le _,rfl⟩
  ·rintro k ⟨hk,ht⟩
   refine kq [0,1,5] ?_
   refine s5 ?_
   refine L_lenS rfl rfl el85.h ?_
   refine s2 ?_
   refine kp [0,1,5,14] ?_
   refine W_cond rfl (fun hc4=>?_) (fun hc4=>?_)
   ·have hk1:k < x1.length:=by simpa using hc4
    obtain ⟨g1,o1,rfl⟩:=rd_addr h1 hk1
    obtain ⟨g2,o2,rfl⟩:=rd_addr (k:=k) h2 (show k < x2.length by omega)
    obtain ⟨u1,hu1⟩:=getEl hk1
    obtain ⟨u2,hu2⟩:=getEl (show k < x2.length by omega)
    refine s4 ?_
    refine W_D0 [26] mix (by kernel_rfl) rfl ?_
    refine s2 ?_
    refine D_indexAddr _ GC.none (OpV.t rfl) (OpV.t rfl) el85.h (fun hg=>⟨rfl,by (try dsimp only);omega⟩) ?_
    refine D_loadW GC.none (OpV.t rfl) (fun hg=>(by first | exact RdC.blk mm | exact RdC.old (Cells.el h1 rfl hu1) | exact RdC.old (Cells.el h2 rfl hu2))) (by exact agg92.h) ?_
    refine s2 ?_
    refine D_indexAddr _ GC.none (OpV.t rfl) (OpV.t rfl) el85.h (fun hg=>⟨rfl,by (try dsimp only);omega⟩) ?_
    refine D_loadW GC.none (OpV.t rfl) (fun hg=>(by first | exact RdC.blk mm | exact RdC.old (Cells.el h1 rfl hu1) | exact RdC.old (Cells.el h2 rfl hu2))) (by exact agg92.h) ?_
    refine D_callX GC.none fn134.h (OpVs.cons (OpV.t rfl) (OpVs.cons (OpV.t rfl) (OpVs.nil))) (by exact fun hg w F hF hM=>(fun w hw=>eqId_spec w _ _ (rd_carry (h1.2.2.1 _ (List.mem_of_getElem? hu1)) hw) (rd_carry (h2.2.2.1 _ (List.mem_of_getElem? hu2)) hw)) w hF) ?_
    refine s13 ?_
    refine kp [0,1,5,26] ?_
    refine W_cond rfl (fun hc6=>?_) (fun hc6=>?_)
    ·refine s5 ?_
     refine res1 rfl (ResOK.tmp rfl) ⟨?_,rfl⟩ ms
     refine congrArg Value.bool (Eq.symm (eqB_false.2 fun e=>?_))
     simp at hc6
     replace e:x1.map GT.dat=x2.map GT.dat:=e
     have e2:=congrArg (fun l=>l[k]?) e
     simp only [List.getElem?_map,hu1,hu2,Option.map_some,Option.some.injEq] at e2
     exact hc6 (by simpa [dat_int,dat_str,dat_bool] using e2)
    ·refine s3 ?_
     refine L_binV rfl rfl rfl (bv_addR (by unfold inR;omega)) ?_
     refine s2 ?_
     refine ⟨k+1,sb,ms,?_,?_⟩
     ·exact ⟨by omega,take_succ_eq ht (by rw [List.getElem?_map,hu1];rfl) (by rw [List.getElem?_map,hu2];rfl) (by simpa [dat_int,dat_str,dat_bool] using hc6)⟩
     ·(try dsimp only);omega
   ·refine W_exit ?_
    refine s5 ?_
    refine res1 rfl (ResOK.tmp rfl) ⟨?_,rfl⟩ ms
    refine congrArg Value.bool (Eq.symm (eqB_true.2 ?_))
    have hk2:x1.length≤k:=by simpa using hc4
    have h3:=ht
    rw [List.take_of_length_le (by simp;omega),List.take_of_length_le (by simp;omega)] at h3
    exact h3
theorem szIdS_spec (w:World) (t1:TL T_Id) (left:Int) (hl:0≤left) (hm:left≤1048576) (h1:GT.rd w [] t1) (ho:Ok.ok (GT.dat t1)):Spec Tryz.prog 105 [t1.hdr,.int .i64 left].toArray w [] (IsV (.int .i64 (if (Bk.bulk t1:Int)≤left then left - (Bk.bulk t1:Int) else -1))):=by
 obtain ⟨a1,c1,e1,x1,y1⟩:=t1
 have hm1:x1.length≤9223372036854775807:=rd_len h1
 rw [bulk_TL]
 dsimp only [TL.hdr]
 have hz:bulks x1=0:=by
  clear hm1 h1 ho
  induction x1 with
  | nil=>rfl
  | cons y ys ih=>simp only [bulks,ih];rfl
 refine Spec.intro Tryz.func105 rfl Tryz.ntmps105 rfl ?_
 refine s8 ?_
 refine L_lenS rfl rfl el100.h ?_
 refine L_binV rfl rfl rfl (bv_subR (by unfold inR;omega)) ?_
 refine s8 ?_
 refine kp [1,10] ?_
 refine W_cond rfl (fun hc2=>?_) (fun hc2=>?_)
 ·have hb0:left - (x1.length:Int) < 0:=by simpa using hc2
  refine s5 ?_
  refine res1 rfl (ResOK.tmp rfl) ⟨?_,rfl⟩ ms
  simp only [hz,Nat.add_zero]
  first
   | (rw [if_pos (by omega)];done)
   | (rw [if_neg (by omega)])
 ·have hb0:¬ (left - (x1.length:Int) < 0):=by simpa using hc2
  skip
  refine s7 ?_
  refine res1 rfl (ResOK.tmp rfl) ⟨?_,rfl⟩ ms
  simp only [hz,Nat.add_zero]
  first
   | (rw [if_pos (by omega)];done)
   | (rw [if_neg (by omega)])
theorem toIdS_spec (w:World) (t1:TL T_Id) (h1:GT.rd w [] t1) (hb:Bk.bulk t1≤1048576):Spec Tryz.prog 118 [t1.hdr].toArray w [] (fun v M=>∃ t2:TL T_Id,v=t2.hdr∧GT.dat t2=GT.dat t1∧M=[treeH t2]):=by
 obtain ⟨a1,c1,e1,x1,y1⟩:=t1
 rw [bulk_TL] at hb
 dsimp only [TL.hdr]
 refine Spec.intro Tryz.func118 rfl Tryz.ntmps118 rfl ?_
 refine s7 ?_
 refine L_lenS rfl rfl el100.h ?_
 refine L_make (τ:=T_Id) ((0:Int),(0:Int)) rfl rfl rfl el85.h rfl rfl (flat_pair (flat_int trivial) (flat_int trivial)) (by omega) (by unfold maxLen;omega) (fun g=>?_)
 refine s8 ?_
 refine W_loopC (σ:=Nat×List T_Id) (0,List.replicate x1.length ((0:Int),(0:Int))) (fun (p:Nat×List T_Id)=>[(4,.int .i64 (p.1:Int))]) (fun (p:Nat×List T_Id)=>[treeH (⟨some ⟨g,0,none⟩,x1.length,92,p.2,[]⟩:TL T_Id)]) (fun (p:Nat×List T_Id)=>p.1≤x1.length∧p.2.length=x1.length∧(p.2.take p.1).map GT.dat=(x1.take p.1).map GT.dat) (fun (p:Nat×List T_Id)=>x1.length - p.1) [(0,_),(3,_)] [] ?_ sb ms ?_
 ·exact ⟨Nat.zero_le _,by simp,by simp⟩
 ·rintro ⟨k,cur⟩ ⟨hk,hlen,hdat⟩
  dsimp only at hk hlen hdat
  refine kq [0,3,4] ?_
  refine s5 ?_
  refine L_lenS rfl rfl el100.h ?_
  refine s2 ?_
  refine kp [0,3,4,11] ?_
  refine W_cond rfl (fun hc3=>?_) (fun hc3=>?_)
  ·have hk1:k < x1.length:=by simpa using hc3
   obtain ⟨g1,o1,rfl⟩:=rd_addr h1 hk1
   obtain ⟨u1,hu1⟩:=getEl hk1
   have hub:Bk.bulk u1≤1048576:=by have:=bulk_mem (List.mem_of_getElem? hu1);omega
   refine s8 ?_
   refine L_indexAddr rfl rfl rfl el100.h rfl (by omega) ?_
   refine L_loadW rfl rfl (by first | exact RdC.blk mm | exact RdC.old (Cells.el h1 rfl hu1)) (by exact agg98.h) ?_
   refine L_callR rfl fn116.h rfl (by exact fun w hw=>toId_spec w _ (rd_carry (h1.2.2.1 _ (List.mem_of_getElem? hu1)) hw) hub) ?_
   rintro v M1 ⟨u2,hv,hd,rfl⟩
   subst hv
   simp only [List.cons_append,List.nil_append]
   refine L_indexAddr rfl rfl rfl el85.h rfl (by omega) ?_
   obtain ⟨u0,hu0⟩:=getEl (show k < cur.length by omega)
   refine L_storeEl u2 rfl rfl pk rfl hu0 rfl pk (.inl agg92.h) ?_
   refine s3 ?_
   refine L_binV rfl rfl rfl (bv_addR (by unfold inR;omega)) ?_
   refine s2 ?_
   refine ⟨(k+1,cur.set k u2),sb,ms,?_,?_⟩
   ·exact ⟨by dsimp only;omega,by simpa using hlen,map_take_set GT.dat GT.dat hdat (by omega) hu1 hd⟩
   ·dsimp only;omega
  ·refine W_exit ?_
   refine s6 ?_
   refine res1 rfl (ResOK.tmp rfl) ⟨⟨some ⟨g,0,none⟩,x1.length,92,cur,[]⟩,?_,?_,rfl⟩ ms
   ·show _=Value.slice _ cur.length _
    rw [hlen]
   ·have hk2:x1.length≤k:=by simpa using hc3
    rw [List.take_of_length_le (by omega),List.take_of_length_le (by omega)] at hdat
    exact hdat
theorem eqStringS_spec (w:World) (t1 t2:TL ByteArray) (h1:GT.rd w [] t1) (h2:GT.rd w [] t2):Spec Tryz.prog 199 [t1.hdr,t2.hdr].toArray w [] (IsV (.bool (eqB (GT.dat t1) (GT.dat t2)))):=by
 obtain ⟨a1,c1,e1,x1,y1⟩:=t1
 obtain ⟨a2,c2,e2,x2,y2⟩:=t2
 have hm1:x1.length≤9223372036854775807:=rd_len h1
 have hm2:x2.length≤9223372036854775807:=rd_len h2
 dsimp only [TL.hdr]
 refine Spec.intro Tryz.func199 rfl Tryz.ntmps199 rfl ?_
 refine s8 ?_
 refine L_lenS rfl rfl el65.h ?_
 refine s1 ?_
 refine L_lenS rfl rfl el65.h ?_
 refine s2 ?_
 refine kp [0,1,10] ?_
 refine W_cond rfl (fun hc1=>?_) (fun hc1=>?_)
 ·refine s5 ?_
  refine res1 rfl (ResOK.tmp rfl) ⟨?_,rfl⟩ ms
  refine congrArg Value.bool (Eq.symm (eqB_false.2 fun e=>?_))
  simp at hc1
  exact hc1 (by have:=congrArg List.length e;simp [dat_TL] at this;omega)
 ·have hl:x1.length=x2.length:=by simp at hc1;omega
  refine s7 ?_
  refine W_loopC (σ:=Nat) 0 (fun (k:Nat)=>[(5,.int .i64 (k:Int))]) (fun (k:Nat)=>[]) (fun (k:Nat)=>k≤x1.length∧(x1.map GT.dat).take k=(x2.map GT.dat).take k) (fun (k:Nat)=>x1.length - k) [(0,_),(1,_)] [] ?_ sb ms ?_
  ·exact ⟨Nat.zero_le _,rfl⟩
  ·rintro k ⟨hk,ht⟩
   refine kq [0,1,5] ?_
   refine s5 ?_
   refine L_lenS rfl rfl el65.h ?_
   refine s2 ?_
   refine kp [0,1,5,14] ?_
   refine W_cond rfl (fun hc4=>?_) (fun hc4=>?_)
   ·have hk1:k < x1.length:=by simpa using hc4
    obtain ⟨g1,o1,rfl⟩:=rd_addr h1 hk1
    obtain ⟨g2,o2,rfl⟩:=rd_addr (k:=k) h2 (show k < x2.length by omega)
    obtain ⟨u1,hu1⟩:=getEl hk1
    obtain ⟨u2,hu2⟩:=getEl (show k < x2.length by omega)
    refine s4 ?_
    refine W_D0 [25] mix (by kernel_rfl) rfl ?_
    refine s2 ?_
    refine D_indexAddr _ GC.none (OpV.t rfl) (OpV.t rfl) el65.h (fun hg=>⟨rfl,by (try dsimp only);omega⟩) ?_
    refine D_load0 GC.none (OpV.t rfl) (fun hg=>(by first | exact RdC.blk mm | exact RdC.old (Cells.el h1 rfl hu1) | exact RdC.old (Cells.el h2 rfl hu2))) one9.h rfl ?_
    refine s2 ?_
    refine D_indexAddr _ GC.none (OpV.t rfl) (OpV.t rfl) el65.h (fun hg=>⟨rfl,by (try dsimp only);omega⟩) ?_
    refine D_load0 GC.none (OpV.t rfl) (fun hg=>(by first | exact RdC.blk mm | exact RdC.old (Cells.el h1 rfl hu1) | exact RdC.old (Cells.el h2 rfl hu2))) one9.h rfl ?_
    refine s12 ?_
    refine kp [0,1,5,25] ?_
    refine W_cond rfl (fun hc6=>?_) (fun hc6=>?_)
    ·refine s5 ?_
     refine res1 rfl (ResOK.tmp rfl) ⟨?_,rfl⟩ ms
     refine congrArg Value.bool (Eq.symm (eqB_false.2 fun e=>?_))
     simp at hc6
     replace e:x1.map GT.dat=x2.map GT.dat:=e
     have e2:=congrArg (fun l=>l[k]?) e
     simp only [List.getElem?_map,hu1,hu2,Option.map_some,Option.some.injEq] at e2
     exact hc6 (by simpa [dat_int,dat_str,dat_bool] using e2)
    ·refine s3 ?_
     refine L_binV rfl rfl rfl (bv_addR (by unfold inR;omega)) ?_
     refine s2 ?_
     refine ⟨k+1,sb,ms,?_,?_⟩
     ·exact ⟨by omega,take_succ_eq ht (by rw [List.getElem?_map,hu1];rfl) (by rw [List.getElem?_map,hu2];rfl) (by simpa [dat_int,dat_str,dat_bool] using hc6)⟩
     ·(try dsimp only);omega
   ·refine W_exit ?_
    refine s5 ?_
    refine res1 rfl (ResOK.tmp rfl) ⟨?_,rfl⟩ ms
    refine congrArg Value.bool (Eq.symm (eqB_true.2 ?_))
    have hk2:x1.length≤k:=by simpa using hc4
    have h3:=ht
    rw [List.take_of_length_le (by simp;omega),List.take_of_length_le (by simp;omega)] at h3
    exact h3
theorem szStringS_spec (w:World) (t1:TL ByteArray) (left:Int) (hl:0≤left) (hm:left≤1048576) (h1:GT.rd w [] t1) (ho:Ok.ok (GT.dat t1)):Spec Tryz.prog 170 [t1.hdr,.int .i64 left].toArray w [] (IsV (.int .i64 (if (Bk.bulk t1:Int)≤left then left - (Bk.bulk t1:Int) else -1))):=by
  obtain ⟨a1,c1,e1,x1,y1⟩:=t1
  have hm1:x1.length≤9223372036854775807:=rd_len h1
  rw [bulk_TL]
  dsimp only [TL.hdr]
  refine Spec.intro Tryz.func170 rfl Tryz.ntmps170 rfl ?_
  refine s8 ?_
  refine L_lenS rfl rfl el65.h ?_
  refine L_binV rfl rfl rfl (bv_subR (by unfold inR;omega)) ?_
  refine s8 ?_
  refine kp [0,1,11] ?_
  refine W_cond rfl (fun hc2=>?_) (fun hc2=>?_)
  · have hb0:left - (x1.length:Int) < 0:=by simpa using hc2
    refine s5 ?_
    refine res1 rfl (ResOK.tmp rfl) ⟨?_,rfl⟩ ms
    first
      | (rw [if_neg (by simp only [Int.natCast_add];omega)];done)
      | (rw [if_neg (by have:=bulks_take_le x1 (k+1);simp only [Int.natCast_add];omega)];done)
      | (have hk2:x1.length≤k:=by simpa using hc5
         rw [List.take_of_length_le hk2] at ht ⊢
         rw [if_pos (by simp only [Int.natCast_add];omega)];congr 1;simp only [Int.natCast_add];omega)
  · have hb0:¬ (left - (x1.length:Int) < 0):=by simpa using hc2
    refine s7 ?_
    have h0:left - (x1.length:Int)=left - (x1.length:Int) - (bulks (x1.take 0):Int):=by simp [bulks]
    rw [h0]
    refine W_loopC (σ:=Nat) 0 (fun (k:Nat)=>[(1,.int .i64 (left - (x1.length:Int) - (bulks (x1.take k):Int))),(5,.int .i64 (k:Int))]) (fun (k:Nat)=>[]) (fun (k:Nat)=>k≤x1.length∧0≤(left - (x1.length:Int) - (bulks (x1.take k):Int))) (fun (k:Nat)=>x1.length - k) [(0,_)] [] ?_ sb ms ?_
    · exact ⟨Nat.zero_le _,by simp [bulks];omega⟩
    · rintro k ⟨hk,ht⟩
      refine kq [0,1,5] ?_
      refine s5 ?_
      refine L_lenS rfl rfl el65.h ?_
      refine s2 ?_
      refine kp [0,1,5,15] ?_
      refine W_cond rfl (fun hc5=>?_) (fun hc5=>?_)
      · have hk1:k < x1.length:=by simpa using hc5
        obtain ⟨g1,o1,rfl⟩:=rd_addr h1 hk1
        obtain ⟨u1,hu1⟩:=getEl hk1
        have hbs:=bulks_take_succ hu1
        have hble:=bulks_take_le x1 (k+1)
        have hus:u1.size≤9223372036854775807:=ho.2 _ (List.mem_map.2 ⟨u1,List.mem_of_getElem? hu1,rfl⟩)
        rw [bulk_str] at hbs
        refine s8 ?_
        refine L_indexAddr rfl rfl rfl el65.h rfl (by omega) ?_
        refine L_load0 rfl rfl (by first | exact RdC.blk mm | exact RdC.old (Cells.el h1 rfl hu1)) one9.h rfl ?_
        refine s1 ?_
        refine L_binV rfl rfl rfl (bv_subR (by unfold inR;omega)) ?_
        refine s7 ?_
        refine kp [0,1,5,26] ?_
        refine W_cond rfl (fun hc8=>?_) (fun hc8=>?_)
        · have hb1:(left - (x1.length:Int) - (bulks (x1.take k):Int)) - (u1.size:Int) < 0:=by simpa using hc8
          refine s5 ?_
          refine res1 rfl (ResOK.tmp rfl) ⟨?_,rfl⟩ ms
          first
            | (rw [if_neg (by simp only [Int.natCast_add];omega)];done)
            | (rw [if_neg (by have:=bulks_take_le x1 (k+1);simp only [Int.natCast_add];omega)];done)
            | (have hk2:x1.length≤k:=by simpa using hc5
               rw [List.take_of_length_le hk2] at ht ⊢
               rw [if_pos (by simp only [Int.natCast_add];omega)];congr 1;simp only [Int.natCast_add];omega)
        · have hb1:¬ ((left - (x1.length:Int) - (bulks (x1.take k):Int)) - (u1.size:Int) < 0):=by simpa using hc8
          have hnx:(left - (x1.length:Int) - (bulks (x1.take k):Int)) - (u1.size:Int)=left - (x1.length:Int) - (bulks (x1.take (k+1)):Int):=by rw [hbs];omega
          rw [hnx]
          refine s3 ?_
          refine L_binV rfl rfl rfl (bv_addR (by unfold inR;omega)) ?_
          refine s2 ?_
          refine ⟨k+1,sb,ms,?_,?_⟩
          · exact ⟨by omega,by omega⟩
          · (try dsimp only);omega
      · refine W_exit ?_
        refine s6 ?_
        refine res1 rfl (ResOK.tmp rfl) ⟨?_,rfl⟩ ms
        first
          | (rw [if_neg (by simp only [Int.natCast_add];omega)];done)
          | (rw [if_neg (by have:=bulks_take_le x1 (k+1);simp only [Int.natCast_add];omega)];done)
          | (have hk2:x1.length≤k:=by simpa using hc5
             rw [List.take_of_length_le hk2] at ht ⊢
             rw [if_pos (by simp only [Int.natCast_add];omega)];congr 1;simp only [Int.natCast_add];omega)
theorem toStringS_spec (w:World) (t1:TL ByteArray) (h1:GT.rd w [] t1) (hb:Bk.bulk t1≤1048576):Spec Tryz.prog 178 [t1.hdr].toArray w [] (fun v M=>∃ t2:TL ByteArray,v=t2.hdr∧GT.dat t2=GT.dat t1∧M=[treeH t2]):=by
 obtain ⟨a1,c1,e1,x1,y1⟩:=t1
 rw [bulk_TL] at hb
 dsimp only [TL.hdr]
 refine Spec.intro Tryz.func178 rfl Tryz.ntmps178 rfl ?_
 refine s7 ?_
 refine L_lenS rfl rfl el65.h ?_
 refine L_make (τ:=ByteArray) ByteArray.empty rfl rfl rfl el65.h rfl rfl (flat_str trivial) (by omega) (by unfold maxLen;omega) (fun g=>?_)
 refine s8 ?_
 refine W_loopC (σ:=Nat×List ByteArray) (0,List.replicate x1.length ByteArray.empty) (fun (p:Nat×List ByteArray)=>[(4,.int .i64 (p.1:Int))]) (fun (p:Nat×List ByteArray)=>[treeH (⟨some ⟨g,0,none⟩,x1.length,9,p.2,[]⟩:TL ByteArray)]) (fun (p:Nat×List ByteArray)=>p.1≤x1.length∧p.2.length=x1.length∧(p.2.take p.1).map GT.dat=(x1.take p.1).map GT.dat) (fun (p:Nat×List ByteArray)=>x1.length - p.1) [(0,_),(3,_)] [] ?_ sb ms ?_
 ·exact ⟨Nat.zero_le _,by simp,by simp⟩
 ·rintro ⟨k,cur⟩ ⟨hk,hlen,hdat⟩
  dsimp only at hk hlen hdat
  refine kq [0,3,4] ?_
  refine s5 ?_
  refine L_lenS rfl rfl el65.h ?_
  refine s2 ?_
  refine kp [0,3,4,11] ?_
  refine W_cond rfl (fun hc3=>?_) (fun hc3=>?_)
  ·have hk1:k < x1.length:=by simpa using hc3
   obtain ⟨g1,o1,rfl⟩:=rd_addr h1 hk1
   obtain ⟨u1,hu1⟩:=getEl hk1
   have hub:Bk.bulk u1≤1048576:=by have:=bulk_mem (List.mem_of_getElem? hu1);omega
   refine s8 ?_
   refine L_indexAddr rfl rfl rfl el65.h rfl (by omega) ?_
   refine L_load0 rfl rfl (by first | exact RdC.blk mm | exact RdC.old (Cells.el h1 rfl hu1)) one9.h rfl ?_
   refine L_indexAddr rfl rfl rfl el65.h rfl (by omega) ?_
   obtain ⟨u0,hu0⟩:=getEl (show k < cur.length by omega)
   refine L_storeElV u1 rfl rfl pk rfl hu0 rfl (flat_str (h1.2.2.1 _ (List.mem_of_getElem? hu1))) (.inr ⟨one9.h,rfl⟩) ?_
   refine s3 ?_
   refine L_binV rfl rfl rfl (bv_addR (by unfold inR;omega)) ?_
   refine s2 ?_
   refine ⟨(k+1,cur.set k u1),sb,ms,?_,?_⟩
   ·exact ⟨by dsimp only;omega,by simpa using hlen,map_take_set GT.dat GT.dat hdat (by omega) hu1 rfl⟩
   ·dsimp only;omega
  ·refine W_exit ?_
   refine s6 ?_
   refine res1 rfl (ResOK.tmp rfl) ⟨⟨some ⟨g,0,none⟩,x1.length,9,cur,[]⟩,?_,?_,rfl⟩ ms
   ·show _=Value.slice _ cur.length _
    rw [hlen]
   ·have hk2:x1.length≤k:=by simpa using hc3
    rw [List.take_of_length_le (by omega),List.take_of_length_le (by omega)] at hdat
    exact hdat
theorem eqCmd_spec (w:World) (t1 t2:T_Cmd) (h1:GT.rd w [] t1) (h2:GT.rd w [] t2):Spec Tryz.prog 135 [.agg (GT.cells t1).toArray,.agg (GT.cells t2).toArray].toArray w [] (IsV (.bool (eqB (GT.dat t1) (GT.dat t2)))):=by
 obtain ⟨a1,a2,a3,a4,a5,a6,a7,a8⟩:=t1
 obtain ⟨b1,b2,b3,b4,b5,b6,b7,b8⟩:=t2
 change Spec _ _ [Value.agg #[.int .i64 a1,.int .i64 a2,.int .i64 a3,.string a4,.string a5,.string a6,.int .i64 a7,a8.hdr],Value.agg #[.int .i64 b1,.int .i64 b2,.int .i64 b3,.string b4,.string b5,.string b6,.int .i64 b7,b8.hdr]].toArray w [] _
 refine Spec.intro Tryz.func135 rfl Tryz.ntmps135 rfl ?_
 refine s2 ?_
 refine bx fun bk2=>?_
 refine bx fun bk3=>?_
 refine s6 ?_
 refine L_load rfl rfl (by first | exact RdC.blk mm) one3.h rfl ?_
 refine s1 ?_
 refine L_load rfl rfl (by first | exact RdC.blk mm) one3.h rfl ?_
 refine s2 ?_
 refine kp [2,3,9] ?_
 refine W_cond rfl (fun hc1=>?_) (fun hc1=>?_)
 ·refine s5 ?_
  refine res1 rfl (ResOK.tmp rfl) ⟨?_,rfl⟩ ms
  clear h1 h2
  first
   | (refine congrArg Value.bool (Eq.symm (eqB_false.2 fun e=>?_));try simp only [dat_pair,dat_int,dat_bool,dat_str,Prod.mk.injEq] at e;simp_all;done)
   | (refine congrArg Value.bool (Eq.symm (eqB_true.2 ?_));try simp only [dat_pair,dat_int,dat_bool,dat_str,Prod.mk.injEq];simp_all;done)
 ·refine s5 ?_
  refine L_load rfl rfl (by first | exact RdC.blk mm) one3.h rfl ?_
  refine s1 ?_
  refine L_load rfl rfl (by first | exact RdC.blk mm) one3.h rfl ?_
  refine s2 ?_
  refine kp [2,3,14] ?_
  refine W_cond rfl (fun hc3=>?_) (fun hc3=>?_)
  ·refine s5 ?_
   refine res1 rfl (ResOK.tmp rfl) ⟨?_,rfl⟩ ms
   clear h1 h2
   first
    | (refine congrArg Value.bool (Eq.symm (eqB_false.2 fun e=>?_));try simp only [dat_pair,dat_int,dat_bool,dat_str,Prod.mk.injEq] at e;simp_all;done)
    | (refine congrArg Value.bool (Eq.symm (eqB_true.2 ?_));try simp only [dat_pair,dat_int,dat_bool,dat_str,Prod.mk.injEq];simp_all;done)
  ·refine s5 ?_
   refine L_load rfl rfl (by first | exact RdC.blk mm) one3.h rfl ?_
   refine s1 ?_
   refine L_load rfl rfl (by first | exact RdC.blk mm) one3.h rfl ?_
   refine s2 ?_
   refine kp [2,3,19] ?_
   refine W_cond rfl (fun hc5=>?_) (fun hc5=>?_)
   ·refine s5 ?_
    refine res1 rfl (ResOK.tmp rfl) ⟨?_,rfl⟩ ms
    clear h1 h2
    first
     | (refine congrArg Value.bool (Eq.symm (eqB_false.2 fun e=>?_));try simp only [dat_pair,dat_int,dat_bool,dat_str,Prod.mk.injEq] at e;simp_all;done)
     | (refine congrArg Value.bool (Eq.symm (eqB_true.2 ?_));try simp only [dat_pair,dat_int,dat_bool,dat_str,Prod.mk.injEq];simp_all;done)
   ·refine s5 ?_
    refine L_load rfl rfl (by first | exact RdC.blk mm) one9.h rfl ?_
    refine s1 ?_
    refine L_load rfl rfl (by first | exact RdC.blk mm) one9.h rfl ?_
    refine s2 ?_
    refine kp [2,3,24] ?_
    refine W_cond rfl (fun hc7=>?_) (fun hc7=>?_)
    ·refine s5 ?_
     refine res1 rfl (ResOK.tmp rfl) ⟨?_,rfl⟩ ms
     clear h1 h2
     first
      | (refine congrArg Value.bool (Eq.symm (eqB_false.2 fun e=>?_));try simp only [dat_pair,dat_int,dat_bool,dat_str,Prod.mk.injEq] at e;simp_all;done)
      | (refine congrArg Value.bool (Eq.symm (eqB_true.2 ?_));try simp only [dat_pair,dat_int,dat_bool,dat_str,Prod.mk.injEq];simp_all;done)
    ·refine s5 ?_
     refine L_load rfl rfl (by first | exact RdC.blk mm) one9.h rfl ?_
     refine s1 ?_
     refine L_load rfl rfl (by first | exact RdC.blk mm) one9.h rfl ?_
     refine s2 ?_
     refine kp [2,3,29] ?_
     refine W_cond rfl (fun hc9=>?_) (fun hc9=>?_)
     ·refine s5 ?_
      refine res1 rfl (ResOK.tmp rfl) ⟨?_,rfl⟩ ms
      clear h1 h2
      first
       | (refine congrArg Value.bool (Eq.symm (eqB_false.2 fun e=>?_));try simp only [dat_pair,dat_int,dat_bool,dat_str,Prod.mk.injEq] at e;simp_all;done)
       | (refine congrArg Value.bool (Eq.symm (eqB_true.2 ?_));try simp only [dat_pair,dat_int,dat_bool,dat_str,Prod.mk.injEq];simp_all;done)
     ·refine s5 ?_
      refine L_load rfl rfl (by first | exact RdC.blk mm) one9.h rfl ?_
      refine s1 ?_
      refine L_load rfl rfl (by first | exact RdC.blk mm) one9.h rfl ?_
      refine s2 ?_
      refine kp [2,3,34] ?_
      refine W_cond rfl (fun hc11=>?_) (fun hc11=>?_)
      ·refine s5 ?_
       refine res1 rfl (ResOK.tmp rfl) ⟨?_,rfl⟩ ms
       clear h1 h2
       first
        | (refine congrArg Value.bool (Eq.symm (eqB_false.2 fun e=>?_));try simp only [dat_pair,dat_int,dat_bool,dat_str,Prod.mk.injEq] at e;simp_all;done)
        | (refine congrArg Value.bool (Eq.symm (eqB_true.2 ?_));try simp only [dat_pair,dat_int,dat_bool,dat_str,Prod.mk.injEq];simp_all;done)
      ·refine s5 ?_
       refine L_load rfl rfl (by first | exact RdC.blk mm) one3.h rfl ?_
       refine s1 ?_
       refine L_load rfl rfl (by first | exact RdC.blk mm) one3.h rfl ?_
       refine s2 ?_
       refine kp [2,3,39] ?_
       refine W_cond rfl (fun hc13=>?_) (fun hc13=>?_)
       ·refine s5 ?_
        refine res1 rfl (ResOK.tmp rfl) ⟨?_,rfl⟩ ms
        clear h1 h2
        first
         | (refine congrArg Value.bool (Eq.symm (eqB_false.2 fun e=>?_));try simp only [dat_pair,dat_int,dat_bool,dat_str,Prod.mk.injEq] at e;simp_all;done)
         | (refine congrArg Value.bool (Eq.symm (eqB_true.2 ?_));try simp only [dat_pair,dat_int,dat_bool,dat_str,Prod.mk.injEq];simp_all;done)
       ·refine s5 ?_
        refine L_load rfl rfl (by first | exact RdC.blk mm) one65.h rfl ?_
        refine s1 ?_
        refine L_load rfl rfl (by first | exact RdC.blk mm) one65.h rfl ?_
        refine L_callX rfl fn199.h rfl (by exact fun w hw=>eqStringS_spec w _ _ (rd_carry (h1.2.2.2.2.2.2.2) hw) (rd_carry (h2.2.2.2.2.2.2.2) hw)) ?_
        refine s2 ?_
        refine kp [45] ?_
        refine W_cond rfl (fun hc15=>?_) (fun hc15=>?_)
        ·refine s5 ?_
         refine res1 rfl (ResOK.tmp rfl) ⟨?_,rfl⟩ ms
         clear h1 h2
         first
          | (refine congrArg Value.bool (Eq.symm (eqB_false.2 fun e=>?_));try simp only [dat_pair,dat_int,dat_bool,dat_str,Prod.mk.injEq] at e;simp_all;done)
          | (refine congrArg Value.bool (Eq.symm (eqB_true.2 ?_));try simp only [dat_pair,dat_int,dat_bool,dat_str,Prod.mk.injEq];simp_all;done)
        ·refine s6 ?_
         refine res1 rfl (ResOK.tmp rfl) ⟨?_,rfl⟩ ms
         clear h1 h2
         first
          | (refine congrArg Value.bool (Eq.symm (eqB_false.2 fun e=>?_));try simp only [dat_pair,dat_int,dat_bool,dat_str,Prod.mk.injEq] at e;simp_all;done)
          | (refine congrArg Value.bool (Eq.symm (eqB_true.2 ?_));try simp only [dat_pair,dat_int,dat_bool,dat_str,Prod.mk.injEq];simp_all;done)
theorem szCmd_spec (w:World) (t1:T_Cmd) (left:Int) (hl:0≤left) (hm:left≤1048576) (h1:GT.rd w [] t1) (ho:Ok.ok (GT.dat t1)):Spec Tryz.prog 104 [.agg (GT.cells t1).toArray,.int .i64 left].toArray w [] (IsV (.int .i64 (if (Bk.bulk t1:Int)≤left then left - (Bk.bulk t1:Int) else -1))):=by
 obtain ⟨a1,a2,a3,a4,a5,a6,a7,a8⟩:=t1
 have hs3:a4.size≤9223372036854775807:=ho.2.2.2.1
 have hs4:a5.size≤9223372036854775807:=ho.2.2.2.2.1
 have hs5:a6.size≤9223372036854775807:=ho.2.2.2.2.2.1
 change Spec _ _ [Value.agg #[.int .i64 a1,.int .i64 a2,.int .i64 a3,.string a4,.string a5,.string a6,.int .i64 a7,a8.hdr],.int .i64 left].toArray w [] _
 refine Spec.intro Tryz.func104 rfl Tryz.ntmps104 rfl ?_
 refine s2 ?_
 refine bx fun bk2=>?_
 refine s6 ?_
 refine L_load rfl rfl (by first | exact RdC.blk mm) one9.h rfl ?_
 refine s1 ?_
 refine L_binV rfl rfl rfl (bv_subR (by unfold inR;omega)) ?_
 refine s8 ?_
 refine kp [1,2,11] ?_
 refine W_cond rfl (fun hc2=>?_) (fun hc2=>?_)
 ·have hb3:left - (a4.size:Int) < 0:=by simpa using hc2
  refine s5 ?_
  refine res1 rfl (ResOK.tmp rfl) ⟨?_,rfl⟩ ms
  try simp only [bulk_pair,bulk_int,bulk_bool,bulk_str,Int.natCast_add,Int.natCast_zero] at *
  all_goals first
   | rfl
   | (rw [if_pos (by omega)]<;>(congr 1<;>omega))
   | (rw [if_neg (by omega)])
 ·have hb3:¬ (left - (a4.size:Int) < 0):=by simpa using hc2
  refine s5 ?_
  refine L_load rfl rfl (by first | exact RdC.blk mm) one9.h rfl ?_
  refine s1 ?_
  refine L_binV rfl rfl rfl (bv_subR (by unfold inR;omega)) ?_
  refine s8 ?_
  refine kp [1,2,18] ?_
  refine W_cond rfl (fun hc5=>?_) (fun hc5=>?_)
  ·have hb4:left - (a4.size:Int) - (a5.size:Int) < 0:=by simpa using hc5
   refine s5 ?_
   refine res1 rfl (ResOK.tmp rfl) ⟨?_,rfl⟩ ms
   try simp only [bulk_pair,bulk_int,bulk_bool,bulk_str,Int.natCast_add,Int.natCast_zero] at *
   all_goals first
    | rfl
    | (rw [if_pos (by omega)]<;>(congr 1<;>omega))
    | (rw [if_neg (by omega)])
  ·have hb4:¬ (left - (a4.size:Int) - (a5.size:Int) < 0):=by simpa using hc5
   refine s5 ?_
   refine L_load rfl rfl (by first | exact RdC.blk mm) one9.h rfl ?_
   refine s1 ?_
   refine L_binV rfl rfl rfl (bv_subR (by unfold inR;omega)) ?_
   refine s8 ?_
   refine kp [1,2,25] ?_
   refine W_cond rfl (fun hc8=>?_) (fun hc8=>?_)
   ·have hb5:left - (a4.size:Int) - (a5.size:Int) - (a6.size:Int) < 0:=by simpa using hc8
    refine s5 ?_
    refine res1 rfl (ResOK.tmp rfl) ⟨?_,rfl⟩ ms
    try simp only [bulk_pair,bulk_int,bulk_bool,bulk_str,Int.natCast_add,Int.natCast_zero] at *
    all_goals first
     | rfl
     | (rw [if_pos (by omega)]<;>(congr 1<;>omega))
     | (rw [if_neg (by omega)])
   ·have hb5:¬ (left - (a4.size:Int) - (a5.size:Int) - (a6.size:Int) < 0):=by simpa using hc8
    refine s4 ?_
    refine L_load rfl rfl (by first | exact RdC.blk mm) one65.h rfl ?_
    refine s1 ?_
    refine L_callX rfl fn170.h rfl (by exact fun w hw=>szStringS_spec w _ (left - (a4.size:Int) - (a5.size:Int) - (a6.size:Int)) (by omega) (by omega) (rd_carry (h1.2.2.2.2.2.2.2) hw) ho.2.2.2.2.2.2.2) ?_
    refine s8 ?_
    refine kp [1,31] ?_
    refine W_cond rfl (fun hc11=>?_) (fun hc11=>?_)
    ·have hb7:¬ ((Bk.bulk a8:Int)≤left - (a4.size:Int) - (a5.size:Int) - (a6.size:Int)):=by
      intro hn
      rw [if_pos hn] at hc11;simp at hc11;omega
     refine s5 ?_
     refine res1 rfl (ResOK.tmp rfl) ⟨?_,rfl⟩ ms
     try simp only [bulk_pair,bulk_int,bulk_bool,bulk_str,Int.natCast_add,Int.natCast_zero] at *
     all_goals first
      | rfl
      | (rw [if_pos (by omega)]<;>(congr 1<;>omega))
      | (rw [if_neg (by omega)])
    ·have hb7:(Bk.bulk a8:Int)≤left - (a4.size:Int) - (a5.size:Int) - (a6.size:Int):=by
      rcases Int.decLt (left - (a4.size:Int) - (a5.size:Int) - (a6.size:Int)) (Bk.bulk a8:Int) with hn | hn
      ·omega
      ·rw [if_neg (by omega)] at hc11;simp at hc11
     rw [if_pos hb7]
     refine s7 ?_
     refine res1 rfl (ResOK.tmp rfl) ⟨?_,rfl⟩ ms
     try simp only [bulk_pair,bulk_int,bulk_bool,bulk_str,Int.natCast_add,Int.natCast_zero] at *
     all_goals first
      | rfl
      | (rw [if_pos (by omega)]<;>(congr 1<;>omega))
      | (rw [if_neg (by omega)])
theorem toCmd_spec (w:World) (t1:T_Cmd) (h1:GT.rd w [] t1) (hb:Bk.bulk t1≤1048576):Spec Tryz.prog 117 [.agg (GT.cells t1).toArray].toArray w [] (fun v M=>∃ t2:T_Cmd,v=.agg (GT.cells t2).toArray∧GT.dat t2=GT.dat t1∧M=[treeH t2]):=by
 obtain ⟨a1,a2,a3,a4,a5,a6,a7,a8⟩:=t1
 have hbk_7:Bk.bulk a8≤1048576:=by (try simp only [bulk_pair,bulk_int,bulk_bool,bulk_str] at hb ⊢);omega
 change Spec _ _ [Value.agg #[.int .i64 a1,.int .i64 a2,.int .i64 a3,.string a4,.string a5,.string a6,.int .i64 a7,a8.hdr]].toArray w [] _
 refine Spec.intro Tryz.func117 rfl Tryz.ntmps117 rfl ?_
 refine s2 ?_
 refine bx fun bk1=>?_
 refine al fun bk2=>?_
 refine s3 ?_
 refine al fun bk3=>?_
 refine s4 ?_
 refine L_load rfl rfl (by first | exact RdC.blk mm) one3.h rfl ?_
 refine s6 ?_
 refine L_load rfl rfl (by first | exact RdC.blk mm) one3.h rfl ?_
 refine s6 ?_
 refine L_load rfl rfl (by first | exact RdC.blk mm) one3.h rfl ?_
 refine s6 ?_
 refine L_load rfl rfl (by first | exact RdC.blk mm) one9.h rfl ?_
 refine s6 ?_
 refine L_load rfl rfl (by first | exact RdC.blk mm) one9.h rfl ?_
 refine s6 ?_
 refine L_load rfl rfl (by first | exact RdC.blk mm) one9.h rfl ?_
 refine s6 ?_
 refine L_load rfl rfl (by first | exact RdC.blk mm) one3.h rfl ?_
 refine s6 ?_
 refine L_load rfl rfl (by first | exact RdC.blk mm) one65.h rfl ?_
 refine L_callR rfl fn178.h rfl (by exact fun w hw=>toStringS_spec w _ (rd_carry (h1.2.2.2.2.2.2.2) hw) hbk_7) ?_
 rintro v M1 ⟨n8t,hv,hd7,rfl⟩
 subst hv
 simp only [List.cons_append,List.nil_append]
 refine s5 ?_
 refine L_loadW rfl rfl (by first | exact RdC.blk mm) (by exact agg69.h) ?_
 refine L_storeW rfl rfl pk (by exact agg69.h) (by rfl) (by first | (simp [Value.oneCell',TL.hdr];done) | (simp [Value.oneCell',TL.hdr,Value.cells];done) | exact fun v hv=>GT.one _ v hv) ?_
 refine s1 ?_
 refine W_conv (M':=treeH ((a1,a2,a3,a4,a5,a6,a7,n8t):T_Cmd)::_) (fun w h=>(tree_snd (flat_int (h1.1)) (tree_snd (flat_int (h1.2.1)) (tree_snd (flat_int (h1.2.2.1)) (tree_snd (flat_str (h1.2.2.2.1)) (tree_snd (flat_str (h1.2.2.2.2.1)) (tree_snd (flat_str (h1.2.2.2.2.2.1)) (tree_snd (flat_int (h1.2.2.2.2.2.2.1)) (frontPick pk h))))))))) ?_
 refine s1 ?_
 refine res1 rfl (ResOK.cell rfl mm (by exact agg69.h)) ⟨(a1,a2,a3,a4,a5,a6,a7,n8t),rfl,by simp only [dat_pair,hd7],rfl⟩ ms
theorem markIdS_spec (w:World) (t1:TL T_Id) (k0:Nat) (hk0:0 < k0) (hb:k0+Mk.cnt t1 < 9223372036854775807):Spec Tryz.prog 82 [t1.hdr,.int .i64 (k0:Int)].toArray w [treeH t1] (fun v M=>v=.int .i64 ((k0+Mk.cnt t1:Nat):Int)∧M=[treeH (Mk.mkd k0 t1)]):=by
 obtain ⟨a1,c1,e1,x1,y1⟩:=t1
 replace hb:k0+cnts x1 < 9223372036854775807:=hb
 dsimp only [TL.hdr]
 refine Spec.intro Tryz.func82 rfl Tryz.ntmps82 rfl ?_
 refine W_fact (fun w h=>ow_facts (h.prs _ (List.mem_cons_self ..))) fun hF=>?_
 replace hF:x1.length≤9223372036854775807∧(0 < x1.length→∃ g,a1=some ⟨g,0,none⟩):=hF
 refine s10 ?_
 refine W_conv (M':=[treeH (⟨a1,c1,e1,half k0 0 x1,y1⟩:TL T_Id)]) (fun w h=>by rw [half_zero];exact h) ?_
 refine W_loopC (σ:=Nat) 0 (fun (i:Nat)=>[(1,.int .i64 ((k0+cnts (x1.take i):Nat):Int)),(5,.int .i64 (i:Int))]) (fun (i:Nat)=>[treeH (⟨a1,c1,e1,half k0 i x1,y1⟩:TL T_Id)]) (fun (i:Nat)=>i≤x1.length) (fun (i:Nat)=>x1.length - i) [(0,_)] [] ?_ sb ms ?_
 ·exact Nat.zero_le _
 ·rintro i hi
  refine kq [0,1,5] ?_
  refine s5 ?_
  refine L_lenS rfl rfl el85.h ?_
  refine s2 ?_
  refine kp [0,1,5,9] ?_
  refine W_cond rfl (fun hc2=>?_) (fun hc2=>?_)
  ·have hk1:i < x1.length:=by simpa using hc2
   obtain ⟨g,rfl⟩:=hF.2 (by omega)
   obtain ⟨u,hu⟩:=getEl hk1
   have hs:=cnts_take_succ hu
   have hle:=cnts_take_le x1 (i+1)
   have hlh:=half_length k0 i x1
   obtain ⟨b1,b2⟩:=u
   simp only [cnt_pair,cnt_int,cnt_str] at hs
   refine s8 ?_
   refine L_indexAddr rfl rfl rfl el85.h rfl (by omega) ?_
   refine s1 ?_
   refine L_storeElF (fo:=0) (x':=(((((k0+cnts (x1.take i)):Nat):Int),b2):T_Id)) rfl rfl pk rfl (show ((half k0 i x1):List T_Id)[i]?=some ((b1,b2):T_Id) from half_get (k:=k0) hu) rfl rfl (by decide) rfl (fun w h=>by exact ⟨(by exact trivial),h.2⟩) one3.h ?_
   refine s4 ?_
   refine L_binV rfl rfl rfl (bv_addR (by unfold inR;omega)) ?_
   refine s2 ?_
   rw [show (((k0+cnts (x1.take i)):Nat):Int)+1=((((k0+cnts (x1.take i))+1):Nat):Int) from rfl]
   refine s5 ?_
   refine L_indexAddr rfl rfl rfl el85.h rfl (by omega) ?_
   refine s1 ?_
   refine L_storeElF (fo:=1) (x':=(((((k0+cnts (x1.take i)):Nat):Int),((((k0+cnts (x1.take i))+1):Nat):Int)):T_Id)) rfl rfl pk rfl (show (((half k0 i x1).set i (((((k0+cnts (x1.take i)):Nat):Int),b2):T_Id)):List T_Id)[i]?=some (((((k0+cnts (x1.take i)):Nat):Int),b2):T_Id) from set_get (half_get (k:=k0) hu)) rfl rfl (by decide) rfl (fun w h=>by exact ⟨h.1,(by exact trivial)⟩) one3.h ?_
   rw [List.set_set]
   refine s3 ?_
   refine L_binV rfl rfl rfl (bv_addR (by unfold inR;omega)) ?_
   refine s2 ?_
   rw [show ((((k0+cnts (x1.take i))+1):Nat):Int)+1=((((k0+cnts (x1.take i))+2):Nat):Int) from rfl]
   have hfin:((half k0 i x1).set i (((((k0+cnts (x1.take i)):Nat):Int),((((k0+cnts (x1.take i))+1):Nat):Int)):T_Id))=half k0 (i+1) x1:=by
    have h9:=half_set (k:=k0) hu
    try simp only [mk_pair,mk_int,mk_str,cnt_pair,cnt_int,cnt_str,← Nat.add_assoc] at h9
    try simp only [List.set_set]
    exact h9
   refine W_conv (M':=treeH (⟨some ⟨g,0,none⟩,c1,e1,(half k0 (i+1) x1),y1⟩:TL T_Id)::_) (fun w h=>by rw [← hfin];exact h) ?_
   have hE:((k0+cnts (x1.take i))+2)=k0+cnts (x1.take (i+1)):=by rw [hs];(try simp only [cnt_pair,cnt_int,cnt_str]);omega
   rw [hE]
   refine s2 ?_
   refine L_binV rfl rfl rfl (bv_addR (by unfold inR;omega)) ?_
   refine s2 ?_
   refine ⟨i+1,sb,ms,?_,?_⟩
   ·show i+1≤x1.length
    omega
   ·show x1.length - (i+1) < x1.length - i
    omega
  ·refine W_exit ?_
   refine s6 ?_
   have hk2:x1.length≤i:=by simpa using hc2
   rw [half_all k0 hk2]
   refine res1 rfl (ResOK.tmp rfl) ⟨?_,rfl⟩ ms
   have hk2:x1.length≤i:=by simpa using hc2
   rw [List.take_of_length_le hk2];rfl
theorem markStringS_spec (w:World) (t1:TL ByteArray) (k0:Nat) (hk0:0 < k0) (hb:k0+Mk.cnt t1 < 9223372036854775807):Spec Tryz.prog 81 [t1.hdr,.int .i64 (k0:Int)].toArray w [treeH t1] (fun v M=>v=.int .i64 ((k0+Mk.cnt t1:Nat):Int)∧M=[treeH (Mk.mkd k0 t1)]):=by
 obtain ⟨a1,c1,e1,x1,y1⟩:=t1
 replace hb:k0+cnts x1 < 9223372036854775807:=hb
 dsimp only [TL.hdr]
 refine Spec.intro Tryz.func81 rfl Tryz.ntmps81 rfl ?_
 refine W_fact (fun w h=>ow_facts (h.prs _ (List.mem_cons_self ..))) fun hF=>?_
 replace hF:x1.length≤9223372036854775807∧(0 < x1.length→∃ g,a1=some ⟨g,0,none⟩):=hF
 refine s10 ?_
 refine W_conv (M':=[treeH (⟨a1,c1,e1,half k0 0 x1,y1⟩:TL ByteArray)]) (fun w h=>by rw [half_zero];exact h) ?_
 refine W_loopC (σ:=Nat) 0 (fun (i:Nat)=>[(1,.int .i64 ((k0+cnts (x1.take i):Nat):Int)),(5,.int .i64 (i:Int))]) (fun (i:Nat)=>[treeH (⟨a1,c1,e1,half k0 i x1,y1⟩:TL ByteArray)]) (fun (i:Nat)=>i≤x1.length) (fun (i:Nat)=>x1.length - i) [(0,_)] [] ?_ sb ms ?_
 ·exact Nat.zero_le _
 ·rintro i hi
  refine kq [0,1,5] ?_
  refine s5 ?_
  refine L_lenS rfl rfl el65.h ?_
  refine s2 ?_
  refine kp [0,1,5,9] ?_
  refine W_cond rfl (fun hc2=>?_) (fun hc2=>?_)
  ·have hk1:i < x1.length:=by simpa using hc2
   obtain ⟨g,rfl⟩:=hF.2 (by omega)
   obtain ⟨u,hu⟩:=getEl hk1
   have hs:=cnts_take_succ hu
   have hle:=cnts_take_le x1 (i+1)
   have hlh:=half_length k0 i x1
   try simp only [cnt_int,cnt_str] at hs
   refine s8 ?_
   refine L_callX rfl fn40.h rfl (by exact fun w hw=>markText_spec w (k0+cnts (x1.take i)) (by omega) (by omega)) ?_
   refine L_indexAddr rfl rfl rfl el65.h rfl (by omega) ?_
   refine L_storeElV (mtx (k0+cnts (x1.take i))) rfl rfl pk rfl (show ((half k0 i x1):List ByteArray)[i]?=some (u:ByteArray) from half_get (k:=k0) hu) rfl (flat_str trivial) (.inr ⟨one9.h,rfl⟩) ?_
   refine s3 ?_
   refine L_binV rfl rfl rfl (bv_addR (by unfold inR;omega)) ?_
   refine s2 ?_
   rw [show (((k0+cnts (x1.take i)):Nat):Int)+1=((((k0+cnts (x1.take i))+1):Nat):Int) from rfl]
   have hfin:((half k0 i x1).set i (mtx (k0+cnts (x1.take i))))=half k0 (i+1) x1:=by
    have h9:=half_set (k:=k0) hu
    try simp only [mk_pair,mk_int,mk_str,cnt_pair,cnt_int,cnt_str,← Nat.add_assoc] at h9
    try simp only [List.set_set]
    exact h9
   refine W_conv (M':=treeH (⟨some ⟨g,0,none⟩,c1,e1,(half k0 (i+1) x1),y1⟩:TL ByteArray)::_) (fun w h=>by rw [← hfin];exact h) ?_
   have hE:((k0+cnts (x1.take i))+1)=k0+cnts (x1.take (i+1)):=by rw [hs];(try simp only [cnt_pair,cnt_int,cnt_str]);omega
   rw [hE]
   refine s2 ?_
   refine L_binV rfl rfl rfl (bv_addR (by unfold inR;omega)) ?_
   refine s2 ?_
   refine ⟨i+1,sb,ms,?_,?_⟩
   ·show i+1≤x1.length
    omega
   ·show x1.length - (i+1) < x1.length - i
    omega
  ·refine W_exit ?_
   refine s6 ?_
   have hk2:x1.length≤i:=by simpa using hc2
   rw [half_all k0 hk2]
   refine res1 rfl (ResOK.tmp rfl) ⟨?_,rfl⟩ ms
   have hk2:x1.length≤i:=by simpa using hc2
   rw [List.take_of_length_le hk2];rfl
theorem heldStringS_spec (w:World) (t1:TL ByteArray) (k0:Nat) (hk0:0 < k0) (hb:k0+Mk.cnt t1 < 9223372036854775807) (h1:GT.rd w [] (Mk.mkd k0 t1)):Spec Tryz.prog 201 [(Mk.mkd k0 t1).hdr,.int .i64 (k0:Int)].toArray w [] (IsV (.int .i64 ((k0+Mk.cnt t1:Nat):Int))):=by
 obtain ⟨a1,c1,e1,x1,y1⟩:=t1
 replace hb:k0+cnts x1 < 9223372036854775807:=hb
 have hml:=mks_length x1 k0
 have hm1:(mks k0 x1).length≤9223372036854775807:=rd_len h1
 rw [mk_TL] at h1 ⊢
 dsimp only [TL.hdr]
 refine Spec.intro Tryz.func201 rfl Tryz.ntmps201 rfl ?_
 refine s10 ?_
 refine W_loopC (σ:=Nat) 0 (fun (i:Nat)=>[(1,.int .i64 ((k0+cnts (x1.take i):Nat):Int)),(5,.int .i64 (i:Int))]) (fun (i:Nat)=>[]) (fun (i:Nat)=>i≤x1.length) (fun (i:Nat)=>x1.length - i) [(0,_)] [] ?_ sb ms ?_
 ·exact Nat.zero_le _
 ·rintro i hi
  refine kq [0,1,5] ?_
  refine s5 ?_
  refine L_lenS rfl rfl el65.h ?_
  refine s2 ?_
  refine kp [0,1,5,9] ?_
  refine W_cond rfl (fun hc2=>?_) (fun hc2=>?_)
  ·have hk1:i < (mks k0 x1).length:=by simpa using hc2
   obtain ⟨g,o1,rfl⟩:=rd_addr h1 hk1
   obtain ⟨u,hu⟩:=getEl (show i < x1.length by omega)
   have hs:=cnts_take_succ hu
   have hle:=cnts_take_le x1 (i+1)
   have hu2:=mks_get (k:=k0) hu
   try simp only [cnt_int,cnt_str] at hs
   refine s5 ?_
   refine W_D0 [18] mix (by kernel_rfl) rfl ?_
   refine s2 ?_
   refine D_indexAddr _ GC.none (OpV.t rfl) (OpV.t rfl) el65.h (fun hg=>⟨rfl,by (try dsimp only);omega⟩) ?_
   refine D_load0 GC.none (OpV.t rfl) (fun hg=>(by first | exact RdC.blk mm | exact RdC.old (Cells.el h1 rfl hu2))) one9.h rfl ?_
   refine s1 ?_
   refine D_callX GC.none fn40.h (OpVs.cons (OpV.t rfl) (OpVs.nil)) (by exact fun hg w F hF hM=>(fun w hw=>markText_spec w (k0+cnts (x1.take i)) (by omega) (by omega)) w hF) ?_
   refine s10 ?_
   refine kp [0,1,5,18] ?_
   refine W_cond rfl (fun hc4=>?_) (fun hc4=>?_)
   ·refine s5 ?_
    refine res1 rfl (ResOK.tmp rfl) ⟨?_,rfl⟩ ms
    exfalso;simp [mk_int,mk_str] at hc4
   ·refine s3 ?_
    refine L_binV rfl rfl rfl (bv_addR (by unfold inR;omega)) ?_
    refine s2 ?_
    rw [show (((k0+cnts (x1.take i)):Nat):Int)+1=(((k0+cnts (x1.take i))+1:Nat):Int) from rfl]
    have hE:((k0+cnts (x1.take i))+1)=k0+cnts (x1.take (i+1)):=by rw [hs];(try simp only [cnt_pair,cnt_int,cnt_str]);omega
    rw [hE]
    refine s2 ?_
    refine L_binV rfl rfl rfl (bv_addR (by unfold inR;omega)) ?_
    refine s2 ?_
    refine ⟨i+1,sb,ms,?_,?_⟩
    ·show i+1≤x1.length
     omega
    ·show x1.length - (i+1) < x1.length - i
     omega
  ·refine W_exit ?_
   refine s6 ?_
   refine res1 rfl (ResOK.tmp rfl) ⟨?_,rfl⟩ ms
   have hk2:(mks k0 x1).length≤i:=by simpa using hc2
   rw [List.take_of_length_le (by omega)];rfl
end Go.Proofs.SL
