/- The texts of the proof, part 23: the base, walks of functions, plain Lean. -/
import Derived.Test.YtipncebebegacaaGreatRows
import Derived.Test.YtipncebebegacaaGreatT22
import Derived.Test.YtipncebebegacaaGreatT6
namespace Go.Proofs.SL
open Go
set_option maxHeartbeats 2000000
instance fld98_0:FldF Tryz.prog 98 0 0:=⟨by kernel_rfl⟩
instance fld98_1:FldF Tryz.prog 98 1 1:=⟨by kernel_rfl⟩
instance fn134:FnF Tryz.prog 134:=⟨_,Tryz.func134,by kernel_rfl,rfl⟩
instance el100:ElF Tryz.prog 100 98 2 16 [.int .i64 0,.int .i64 0]:=⟨by kernel_rfl⟩
instance agg98:AggF Tryz.prog 98 2:=⟨by kernel_rfl⟩
instance fn116:FnF Tryz.prog 116:=⟨_,Tryz.func116,by kernel_rfl,rfl⟩
instance fn199:FnF Tryz.prog 199:=⟨_,Tryz.func199,by kernel_rfl,rfl⟩
instance fld99_3:FldF Tryz.prog 99 3 3:=⟨by kernel_rfl⟩
instance fld99_4:FldF Tryz.prog 99 4 4:=⟨by kernel_rfl⟩
instance fld99_5:FldF Tryz.prog 99 5 5:=⟨by kernel_rfl⟩
instance fld99_7:FldF Tryz.prog 99 7 7:=⟨by kernel_rfl⟩
instance fn170:FnF Tryz.prog 170:=⟨_,Tryz.func170,by kernel_rfl,rfl⟩
instance fld99_0:FldF Tryz.prog 99 0 0:=⟨by kernel_rfl⟩
instance fld99_1:FldF Tryz.prog 99 1 1:=⟨by kernel_rfl⟩
instance fld99_2:FldF Tryz.prog 99 2 2:=⟨by kernel_rfl⟩
instance fld99_6:FldF Tryz.prog 99 6 6:=⟨by kernel_rfl⟩
instance fn178:FnF Tryz.prog 178:=⟨_,Tryz.func178,by kernel_rfl,rfl⟩
theorem eqId_spec (w:World) (t1 t2:T_Id) (h1:GT.rd w [] t1) (h2:GT.rd w [] t2):Spec Tryz.prog 134 [.agg (GT.cells t1).toArray,.agg (GT.cells t2).toArray].toArray w [] (IsV (.bool (eqB (GT.dat t1) (GT.dat t2)))):=by
 obtain ⟨a1,a2⟩:=t1
 obtain ⟨b1,b2⟩:=t2
 change Spec _ _ [Value.agg #[.int .i64 a1,.int .i64 a2],Value.agg #[.int .i64 b1,.int .i64 b2]].toArray w [] _
 refine Spec.intro Tryz.func134 rfl Tryz.ntmps134 rfl ?_
 refine s2 ?_
 refine bx fun bk2=>?_
 refine bx fun bk3=>?_
 refine s6 ?_
 refine L_load rfl rfl (by first | exact RdC.blk mm) one3.h rfl ?_
 refine s1 ?_
 refine L_load rfl rfl (by first | exact RdC.blk mm) one3.h rfl ?_
 refine s2 ?_
 refine kp [2,3,9] ?_
 refine W_cond rfl (fun q1=>?_) (fun q1=>?_)
 ·refine s5 ?_
  refine res1 rfl (ResOK.tmp rfl) ⟨?_,rfl⟩ ms
  clear h1 h2
  exact eqy
 ·refine s5 ?_
  refine L_load rfl rfl (by first | exact RdC.blk mm) one3.h rfl ?_
  refine s1 ?_
  refine L_load rfl rfl (by first | exact RdC.blk mm) one3.h rfl ?_
  refine s2 ?_
  refine kp [14] ?_
  refine W_cond rfl (fun q3=>?_) (fun q3=>?_)
  ·refine s5 ?_
   refine res1 rfl (ResOK.tmp rfl) ⟨?_,rfl⟩ ms
   clear h1 h2
   exact eqy
  ·refine s6 ?_
   refine res1 rfl (ResOK.tmp rfl) ⟨?_,rfl⟩ ms
   clear h1 h2
   exact eqy
theorem toId_spec (w:World) (t1:T_Id) (h1:GT.rd w [] t1) (hb:Bk.bulk t1≤1048576):Spec Tryz.prog 116 [.agg (GT.cells t1).toArray].toArray w [] (fun v M=>∃ t2:T_Id,v=.agg (GT.cells t2).toArray∧GT.dat t2=GT.dat t1∧M=[treeH t2]):=by
 obtain ⟨a1,a2⟩:=t1
 change Spec _ _ [Value.agg #[.int .i64 a1,.int .i64 a2]].toArray w [] _
 refine Spec.intro Tryz.func116 rfl Tryz.ntmps116 rfl ?_
 refine s2 ?_
 refine bx fun bk1=>?_
 refine al fun bk2=>?_
 refine s3 ?_
 refine al fun bk3=>?_
 refine s4 ?_
 refine L_load rfl rfl (by first | exact RdC.blk mm) one3.h rfl ?_
 refine s6 ?_
 refine L_load rfl rfl (by first | exact RdC.blk mm) one3.h rfl ?_
 refine s5 ?_
 refine L_loadW rfl rfl (by first | exact RdC.blk mm) (by exact agg92.h) ?_
 refine L_storeW rfl rfl pk (by exact agg92.h) (by rfl) (by first | (simp [Value.oneCell',TL.hdr];done) | (simp [Value.oneCell',TL.hdr,Value.cells];done) | exact fun v hv=>GT.one _ v hv) ?_
 refine s1 ?_
 refine W_conv (M':=treeH ((a1,a2):T_Id)::_) (fun w h=>(tree_snd (flat_int (h1.1)) (h.addFlat (flat_int (h1.2))))) ?_
 refine s1 ?_
 refine res1 rfl (ResOK.cell rfl mm (by exact agg92.h)) ⟨(a1,a2),rfl,by simp only [dat_pair],rfl⟩ ms
theorem eqIdS_spec (w:World) (t1 t2:TL T_Id) (h1:GT.rd w [] t1) (h2:GT.rd w [] t2):Spec Tryz.prog 136 [t1.hdr,t2.hdr].toArray w [] (IsV (.bool (eqB (GT.dat t1) (GT.dat t2)))):=by
 obtain ⟨a1,c1,e1,x1,y1⟩:=t1
 obtain ⟨a2,c2,e2,x2,y2⟩:=t2
 have hm1:x1.length≤9223372036854775807:=rd_len h1
 have hm2:x2.length≤9223372036854775807:=rd_len h2
 dsimp only [TL.hdr]
 refine Spec.intro Tryz.func136 rfl Tryz.ntmps136 rfl ?_
 refine s8 ?_
 refine L_lenS rfl rfl el85.h ?_
 refine s1 ?_
 refine L_lenS rfl rfl el85.h ?_
 refine s2 ?_
 refine kp [0,1,10] ?_
 refine W_cond rfl (fun q1=>?_) (fun q1=>?_)
 ·refine s5 ?_
  refine res1 rfl (ResOK.tmp rfl) ⟨?_,rfl⟩ ms
  refine congrArg Value.bool (Eq.symm (eqB_false.2 fun e=>?_))
  simp at q1
  exact q1 (by have:=congrArg List.length e;simp [dat_TL] at this;omega)
 ·have hl:x1.length=x2.length:=by simp at q1;omega
  refine s7 ?_
  refine W_loopC (σ:=Nat) 0 (fun (k:Nat)=>[(5,.int .i64 (k:Int))]) (fun (k:Nat)=>[]) (fun (k:Nat)=>k≤x1.length∧(x1.map GT.dat).take k=(x2.map GT.dat).take k) (fun (k:Nat)=>x1.length - k) [(0,_),(1,_)] [] ?_ sb ms ?_
  ·exact ⟨Nat.zero_le _,rfl⟩
  ·rintro k ⟨hk,ht⟩
   refine kq [0,1,5] ?_
   refine s5 ?_
   refine L_lenS rfl rfl el85.h ?_
   refine s2 ?_
   refine kp [0,1,5,14] ?_
   refine W_cond rfl (fun q4=>?_) (fun q4=>?_)
   ·have hk1:k < x1.length:=by simpa using q4
    obtain ⟨g1,o1,rfl⟩:=rd_addr h1 hk1
    obtain ⟨g2,o2,rfl⟩:=rd_addr (k:=k) h2 (show k < x2.length by omega)
    obtain ⟨u1,hu1⟩:=getEl hk1
    obtain ⟨u2,hu2⟩:=getEl (show k < x2.length by omega)
    refine s4 ?_
    refine W_D0 [26] mix (by kernel_rfl) rfl ?_
    refine s2 ?_
    refine D_indexAddr _ GC.none (OpV.t rfl) (OpV.t rfl) el85.h (fun hg=>⟨rfl,by (try dsimp only);omega⟩) ?_
    refine D_loadW GC.none (OpV.t rfl) (fun hg=>(by first | exact RdC.blk mm | exact RdC.old (Cells.el h1 rfl hu1) | exact RdC.old (Cells.el h2 rfl hu2))) (by exact agg92.h) ?_
    refine s2 ?_
    refine D_indexAddr _ GC.none (OpV.t rfl) (OpV.t rfl) el85.h (fun hg=>⟨rfl,by (try dsimp only);omega⟩) ?_
    refine D_loadW GC.none (OpV.t rfl) (fun hg=>(by first | exact RdC.blk mm | exact RdC.old (Cells.el h1 rfl hu1) | exact RdC.old (Cells.el h2 rfl hu2))) (by exact agg92.h) ?_
    refine D_callX GC.none fn134.h (OpVs.cons (OpV.t rfl) (OpVs.cons (OpV.t rfl) (OpVs.nil))) (by exact fun hg w F hF hM=>(fun w hw=>eqId_spec w _ _ (rd_carry (h1.2.2.1 _ (List.mem_of_getElem? hu1)) hw) (rd_carry (h2.2.2.1 _ (List.mem_of_getElem? hu2)) hw)) w hF) ?_
    refine s13 ?_
    refine kp [0,1,5,26] ?_
    refine W_cond rfl (fun q6=>?_) (fun q6=>?_)
    ·refine s5 ?_
     refine res1 rfl (ResOK.tmp rfl) ⟨?_,rfl⟩ ms
     refine congrArg Value.bool (Eq.symm (eqB_false.2 fun e=>?_))
     simp at q6
     replace e:x1.map GT.dat=x2.map GT.dat:=e
     have e2:=congrArg (fun l=>l[k]?) e
     simp only [List.getElem?_map,hu1,hu2,Option.map_some,Option.some.injEq] at e2
     exact q6 (by simpa [dat_int,dat_str,dat_bool] using e2)
    ·refine s3 ?_
     refine L_binV rfl rfl rfl (bv_addR (by unfold inR;omega)) ?_
     refine s2 ?_
     refine ⟨k+1,sb,ms,?_,?_⟩
     ·exact ⟨by omega,take_succ_eq ht (by rw [List.getElem?_map,hu1];rfl) (by rw [List.getElem?_map,hu2];rfl) (by simpa [dat_int,dat_str,dat_bool] using q6)⟩
     ·(try dsimp only);omega
   ·refine W_exit ?_
    refine s5 ?_
    refine res1 rfl (ResOK.tmp rfl) ⟨?_,rfl⟩ ms
    refine congrArg Value.bool (Eq.symm (eqB_true.2 ?_))
    have hk2:x1.length≤k:=by simpa using q4
    have h3:=ht
    rw [List.take_of_length_le (by simp;omega),List.take_of_length_le (by simp;omega)] at h3
    exact h3
theorem szIdS_spec (w:World) (t1:TL T_Id) (left:Int) (hl:0≤left) (hm:left≤1048576) (h1:GT.rd w [] t1) (ho:Ok.ok (GT.dat t1)):Spec Tryz.prog 105 [t1.hdr,.int .i64 left].toArray w [] (IsV (.int .i64 (if (Bk.bulk t1:Int)≤left then left - (Bk.bulk t1:Int) else -1))):=by
 obtain ⟨a1,c1,e1,x1,y1⟩:=t1
 have hm1:x1.length≤9223372036854775807:=rd_len h1
 rw [bulk_TL]
 dsimp only [TL.hdr]
 have hz:bulks x1=0:=by
  clear hm1 h1 ho
  induction x1 with
  | nil=>rfl
  | cons y ys ih=>simp only [bulks,ih];rfl
 refine Spec.intro Tryz.func105 rfl Tryz.ntmps105 rfl ?_
 refine s8 ?_
 refine L_lenS rfl rfl el100.h ?_
 refine L_binV rfl rfl rfl (bv_subR (by unfold inR;omega)) ?_
 refine s8 ?_
 refine kp [1,10] ?_
 refine W_cond rfl (fun q2=>?_) (fun q2=>?_)
 ·have hb0:left - (x1.length:Int) < 0:=by simpa using q2
  refine s5 ?_
  refine res1 rfl (ResOK.tmp rfl) ⟨?_,rfl⟩ ms
  simp only [hz,Nat.add_zero]
  first
   | (rw [if_pos (by omega)];done)
   | (rw [if_neg (by omega)])
 ·have hb0:¬ (left - (x1.length:Int) < 0):=by simpa using q2
  skip
  refine s7 ?_
  refine res1 rfl (ResOK.tmp rfl) ⟨?_,rfl⟩ ms
  simp only [hz,Nat.add_zero]
  first
   | (rw [if_pos (by omega)];done)
   | (rw [if_neg (by omega)])
theorem toIdS_spec (w:World) (t1:TL T_Id) (h1:GT.rd w [] t1) (hb:Bk.bulk t1≤1048576):Spec Tryz.prog 118 [t1.hdr].toArray w [] (fun v M=>∃ t2:TL T_Id,v=t2.hdr∧GT.dat t2=GT.dat t1∧M=[treeH t2]):=by
 obtain ⟨a1,c1,e1,x1,y1⟩:=t1
 rw [bulk_TL] at hb
 dsimp only [TL.hdr]
 refine Spec.intro Tryz.func118 rfl Tryz.ntmps118 rfl ?_
 refine s7 ?_
 refine L_lenS rfl rfl el100.h ?_
 refine L_make (τ:=T_Id) ((0:Int),(0:Int)) rfl rfl rfl el85.h rfl rfl (flat_pair (flat_int trivial) (flat_int trivial)) (by omega) (by unfold maxLen;omega) (fun g=>?_)
 refine s8 ?_
 refine W_loopC (σ:=Nat×List T_Id) (0,List.replicate x1.length ((0:Int),(0:Int))) (fun (p:Nat×List T_Id)=>[(4,.int .i64 (p.1:Int))]) (fun (p:Nat×List T_Id)=>[treeH (⟨some ⟨g,0,none⟩,x1.length,92,p.2,[]⟩:TL T_Id)]) (fun (p:Nat×List T_Id)=>p.1≤x1.length∧p.2.length=x1.length∧(p.2.take p.1).map GT.dat=(x1.take p.1).map GT.dat) (fun (p:Nat×List T_Id)=>x1.length - p.1) [(0,_),(3,_)] [] ?_ sb ms ?_
 ·exact ⟨Nat.zero_le _,by simp,by simp⟩
 ·rintro ⟨k,cur⟩ ⟨hk,hlen,hdat⟩
  dsimp only at hk hlen hdat
  refine kq [0,3,4] ?_
  refine s5 ?_
  refine L_lenS rfl rfl el100.h ?_
  refine s2 ?_
  refine kp [0,3,4,11] ?_
  refine W_cond rfl (fun q3=>?_) (fun q3=>?_)
  ·have hk1:k < x1.length:=by simpa using q3
   obtain ⟨g1,o1,rfl⟩:=rd_addr h1 hk1
   obtain ⟨u1,hu1⟩:=getEl hk1
   have hub:Bk.bulk u1≤1048576:=by have:=bulk_mem (List.mem_of_getElem? hu1);omega
   refine s8 ?_
   refine L_indexAddr rfl rfl rfl el100.h rfl (by omega) ?_
   refine L_loadW rfl rfl (by first | exact RdC.blk mm | exact RdC.old (Cells.el h1 rfl hu1)) (by exact agg98.h) ?_
   refine L_callR rfl fn116.h rfl (by exact fun w hw=>toId_spec w _ (rd_carry (h1.2.2.1 _ (List.mem_of_getElem? hu1)) hw) hub) ?_
   rintro v M1 ⟨u2,hv,hd,rfl⟩
   subst hv
   simp only [List.cons_append,List.nil_append]
   refine L_indexAddr rfl rfl rfl el85.h rfl (by omega) ?_
   obtain ⟨u0,hu0⟩:=getEl (show k < cur.length by omega)
   refine L_storeEl u2 rfl rfl pk rfl hu0 rfl pk (.inl agg92.h) ?_
   refine s3 ?_
   refine L_binV rfl rfl rfl (bv_addR (by unfold inR;omega)) ?_
   refine s2 ?_
   refine ⟨(k+1,cur.set k u2),sb,ms,?_,?_⟩
   ·exact ⟨by dsimp only;omega,by simpa using hlen,map_take_set GT.dat GT.dat hdat (by omega) hu1 hd⟩
   ·dsimp only;omega
  ·refine W_exit ?_
   refine s6 ?_
   refine res1 rfl (ResOK.tmp rfl) ⟨⟨some ⟨g,0,none⟩,x1.length,92,cur,[]⟩,?_,?_,rfl⟩ ms
   ·show _=Value.slice _ cur.length _
    rw [hlen]
   ·have hk2:x1.length≤k:=by simpa using q3
    rw [List.take_of_length_le (by omega),List.take_of_length_le (by omega)] at hdat
    exact hdat
theorem eqStringS_spec (w:World) (t1 t2:TL ByteArray) (h1:GT.rd w [] t1) (h2:GT.rd w [] t2):Spec Tryz.prog 199 [t1.hdr,t2.hdr].toArray w [] (IsV (.bool (eqB (GT.dat t1) (GT.dat t2)))):=by
 obtain ⟨a1,c1,e1,x1,y1⟩:=t1
 obtain ⟨a2,c2,e2,x2,y2⟩:=t2
 have hm1:x1.length≤9223372036854775807:=rd_len h1
 have hm2:x2.length≤9223372036854775807:=rd_len h2
 dsimp only [TL.hdr]
 refine Spec.intro Tryz.func199 rfl Tryz.ntmps199 rfl ?_
 refine s8 ?_
 refine L_lenS rfl rfl el65.h ?_
 refine s1 ?_
 refine L_lenS rfl rfl el65.h ?_
 refine s2 ?_
 refine kp [0,1,10] ?_
 refine W_cond rfl (fun q1=>?_) (fun q1=>?_)
 ·refine s5 ?_
  refine res1 rfl (ResOK.tmp rfl) ⟨?_,rfl⟩ ms
  refine congrArg Value.bool (Eq.symm (eqB_false.2 fun e=>?_))
  simp at q1
  exact q1 (by have:=congrArg List.length e;simp [dat_TL] at this;omega)
 ·have hl:x1.length=x2.length:=by simp at q1;omega
  refine s7 ?_
  refine W_loopC (σ:=Nat) 0 (fun (k:Nat)=>[(5,.int .i64 (k:Int))]) (fun (k:Nat)=>[]) (fun (k:Nat)=>k≤x1.length∧(x1.map GT.dat).take k=(x2.map GT.dat).take k) (fun (k:Nat)=>x1.length - k) [(0,_),(1,_)] [] ?_ sb ms ?_
  ·exact ⟨Nat.zero_le _,rfl⟩
  ·rintro k ⟨hk,ht⟩
   refine kq [0,1,5] ?_
   refine s5 ?_
   refine L_lenS rfl rfl el65.h ?_
   refine s2 ?_
   refine kp [0,1,5,14] ?_
   refine W_cond rfl (fun q4=>?_) (fun q4=>?_)
   ·have hk1:k < x1.length:=by simpa using q4
    obtain ⟨g1,o1,rfl⟩:=rd_addr h1 hk1
    obtain ⟨g2,o2,rfl⟩:=rd_addr (k:=k) h2 (show k < x2.length by omega)
    obtain ⟨u1,hu1⟩:=getEl hk1
    obtain ⟨u2,hu2⟩:=getEl (show k < x2.length by omega)
    refine s4 ?_
    refine W_D0 [25] mix (by kernel_rfl) rfl ?_
    refine s2 ?_
    refine D_indexAddr _ GC.none (OpV.t rfl) (OpV.t rfl) el65.h (fun hg=>⟨rfl,by (try dsimp only);omega⟩) ?_
    refine D_load0 GC.none (OpV.t rfl) (fun hg=>(by first | exact RdC.blk mm | exact RdC.old (Cells.el h1 rfl hu1) | exact RdC.old (Cells.el h2 rfl hu2))) one9.h rfl ?_
    refine s2 ?_
    refine D_indexAddr _ GC.none (OpV.t rfl) (OpV.t rfl) el65.h (fun hg=>⟨rfl,by (try dsimp only);omega⟩) ?_
    refine D_load0 GC.none (OpV.t rfl) (fun hg=>(by first | exact RdC.blk mm | exact RdC.old (Cells.el h1 rfl hu1) | exact RdC.old (Cells.el h2 rfl hu2))) one9.h rfl ?_
    refine s12 ?_
    refine kp [0,1,5,25] ?_
    refine W_cond rfl (fun q6=>?_) (fun q6=>?_)
    ·refine s5 ?_
     refine res1 rfl (ResOK.tmp rfl) ⟨?_,rfl⟩ ms
     refine congrArg Value.bool (Eq.symm (eqB_false.2 fun e=>?_))
     simp at q6
     replace e:x1.map GT.dat=x2.map GT.dat:=e
     have e2:=congrArg (fun l=>l[k]?) e
     simp only [List.getElem?_map,hu1,hu2,Option.map_some,Option.some.injEq] at e2
     exact q6 (by simpa [dat_int,dat_str,dat_bool] using e2)
    ·refine s3 ?_
     refine L_binV rfl rfl rfl (bv_addR (by unfold inR;omega)) ?_
     refine s2 ?_
     refine ⟨k+1,sb,ms,?_,?_⟩
     ·exact ⟨by omega,take_succ_eq ht (by rw [List.getElem?_map,hu1];rfl) (by rw [List.getElem?_map,hu2];rfl) (by simpa [dat_int,dat_str,dat_bool] using q6)⟩
     ·(try dsimp only);omega
   ·refine W_exit ?_
    refine s5 ?_
    refine res1 rfl (ResOK.tmp rfl) ⟨?_,rfl⟩ ms
    refine congrArg Value.bool (Eq.symm (eqB_true.2 ?_))
    have hk2:x1.length≤k:=by simpa using q4
    have h3:=ht
    rw [List.take_of_length_le (by simp;omega),List.take_of_length_le (by simp;omega)] at h3
    exact h3
theorem szStringS_spec (w:World) (t1:TL ByteArray) (left:Int) (hl:0≤left) (hm:left≤1048576) (h1:GT.rd w [] t1) (ho:Ok.ok (GT.dat t1)):Spec Tryz.prog 170 [t1.hdr,.int .i64 left].toArray w [] (IsV (.int .i64 (if (Bk.bulk t1:Int)≤left then left - (Bk.bulk t1:Int) else -1))):=by
  obtain ⟨a1,c1,e1,x1,y1⟩:=t1
  have hm1:x1.length≤9223372036854775807:=rd_len h1
  rw [bulk_TL]
  dsimp only [TL.hdr]
  refine Spec.intro Tryz.func170 rfl Tryz.ntmps170 rfl ?_
  refine s8 ?_
  refine L_lenS rfl rfl el65.h ?_
  refine L_binV rfl rfl rfl (bv_subR (by unfold inR;omega)) ?_
  refine s8 ?_
  refine kp [0,1,11] ?_
  refine W_cond rfl (fun q2=>?_) (fun q2=>?_)
  · have hb0:left - (x1.length:Int) < 0:=by simpa using q2
    refine s5 ?_
    refine res1 rfl (ResOK.tmp rfl) ⟨?_,rfl⟩ ms
    first
      | (rw [if_neg (by simp only [Int.natCast_add];omega)];done)
      | (rw [if_neg (by have:=bulks_take_le x1 (k+1);simp only [Int.natCast_add];omega)];done)
      | (have hk2:x1.length≤k:=by simpa using q5
         rw [List.take_of_length_le hk2] at ht ⊢
         rw [if_pos (by simp only [Int.natCast_add];omega)];congr 1;simp only [Int.natCast_add];omega)
  · have hb0:¬ (left - (x1.length:Int) < 0):=by simpa using q2
    refine s7 ?_
    have h0:left - (x1.length:Int)=left - (x1.length:Int) - (bulks (x1.take 0):Int):=by simp [bulks]
    rw [h0]
    refine W_loopC (σ:=Nat) 0 (fun (k:Nat)=>[(1,.int .i64 (left - (x1.length:Int) - (bulks (x1.take k):Int))),(5,.int .i64 (k:Int))]) (fun (k:Nat)=>[]) (fun (k:Nat)=>k≤x1.length∧0≤(left - (x1.length:Int) - (bulks (x1.take k):Int))) (fun (k:Nat)=>x1.length - k) [(0,_)] [] ?_ sb ms ?_
    · exact ⟨Nat.zero_le _,by simp [bulks];omega⟩
    · rintro k ⟨hk,ht⟩
      refine kq [0,1,5] ?_
      refine s5 ?_
      refine L_lenS rfl rfl el65.h ?_
      refine s2 ?_
      refine kp [0,1,5,15] ?_
      refine W_cond rfl (fun q5=>?_) (fun q5=>?_)
      · have hk1:k < x1.length:=by simpa using q5
        obtain ⟨g1,o1,rfl⟩:=rd_addr h1 hk1
        obtain ⟨u1,hu1⟩:=getEl hk1
        have hbs:=bulks_take_succ hu1
        have hble:=bulks_take_le x1 (k+1)
        have hus:u1.size≤9223372036854775807:=ho.2 _ (List.mem_map.2 ⟨u1,List.mem_of_getElem? hu1,rfl⟩)
        rw [bulk_str] at hbs
        refine s8 ?_
        refine L_indexAddr rfl rfl rfl el65.h rfl (by omega) ?_
        refine L_load0 rfl rfl (by first | exact RdC.blk mm | exact RdC.old (Cells.el h1 rfl hu1)) one9.h rfl ?_
        refine s1 ?_
        refine L_binV rfl rfl rfl (bv_subR (by unfold inR;omega)) ?_
        refine s7 ?_
        refine kp [0,1,5,26] ?_
        refine W_cond rfl (fun q8=>?_) (fun q8=>?_)
        · have hb1:(left - (x1.length:Int) - (bulks (x1.take k):Int)) - (u1.size:Int) < 0:=by simpa using q8
          refine s5 ?_
          refine res1 rfl (ResOK.tmp rfl) ⟨?_,rfl⟩ ms
          first
            | (rw [if_neg (by simp only [Int.natCast_add];omega)];done)
            | (rw [if_neg (by have:=bulks_take_le x1 (k+1);simp only [Int.natCast_add];omega)];done)
            | (have hk2:x1.length≤k:=by simpa using q5
               rw [List.take_of_length_le hk2] at ht ⊢
               rw [if_pos (by simp only [Int.natCast_add];omega)];congr 1;simp only [Int.natCast_add];omega)
        · have hb1:¬ ((left - (x1.length:Int) - (bulks (x1.take k):Int)) - (u1.size:Int) < 0):=by simpa using q8
          have hnx:(left - (x1.length:Int) - (bulks (x1.take k):Int)) - (u1.size:Int)=left - (x1.length:Int) - (bulks (x1.take (k+1)):Int):=by rw [hbs];omega
          rw [hnx]
          refine s3 ?_
          refine L_binV rfl rfl rfl (bv_addR (by unfold inR;omega)) ?_
          refine s2 ?_
          refine ⟨k+1,sb,ms,?_,?_⟩
          · exact ⟨by omega,by omega⟩
          · (try dsimp only);omega
      · refine W_exit ?_
        refine s6 ?_
        refine res1 rfl (ResOK.tmp rfl) ⟨?_,rfl⟩ ms
        first
          | (rw [if_neg (by simp only [Int.natCast_add];omega)];done)
          | (rw [if_neg (by have:=bulks_take_le x1 (k+1);simp only [Int.natCast_add];omega)];done)
          | (have hk2:x1.length≤k:=by simpa using q5
             rw [List.take_of_length_le hk2] at ht ⊢
             rw [if_pos (by simp only [Int.natCast_add];omega)];congr 1;simp only [Int.natCast_add];omega)
theorem toStringS_spec (w:World) (t1:TL ByteArray) (h1:GT.rd w [] t1) (hb:Bk.bulk t1≤1048576):Spec Tryz.prog 178 [t1.hdr].toArray w [] (fun v M=>∃ t2:TL ByteArray,v=t2.hdr∧GT.dat t2=GT.dat t1∧M=[treeH t2]):=by
 obtain ⟨a1,c1,e1,x1,y1⟩:=t1
 rw [bulk_TL] at hb
 dsimp only [TL.hdr]
 refine Spec.intro Tryz.func178 rfl Tryz.ntmps178 rfl ?_
 refine s7 ?_
 refine L_lenS rfl rfl el65.h ?_
 refine L_make (τ:=ByteArray) ByteArray.empty rfl rfl rfl el65.h rfl rfl (flat_str trivial) (by omega) (by unfold maxLen;omega) (fun g=>?_)
 refine s8 ?_
 refine W_loopC (σ:=Nat×List ByteArray) (0,List.replicate x1.length ByteArray.empty) (fun (p:Nat×List ByteArray)=>[(4,.int .i64 (p.1:Int))]) (fun (p:Nat×List ByteArray)=>[treeH (⟨some ⟨g,0,none⟩,x1.length,9,p.2,[]⟩:TL ByteArray)]) (fun (p:Nat×List ByteArray)=>p.1≤x1.length∧p.2.length=x1.length∧(p.2.take p.1).map GT.dat=(x1.take p.1).map GT.dat) (fun (p:Nat×List ByteArray)=>x1.length - p.1) [(0,_),(3,_)] [] ?_ sb ms ?_
 ·exact ⟨Nat.zero_le _,by simp,by simp⟩
 ·rintro ⟨k,cur⟩ ⟨hk,hlen,hdat⟩
  dsimp only at hk hlen hdat
  refine kq [0,3,4] ?_
  refine s5 ?_
  refine L_lenS rfl rfl el65.h ?_
  refine s2 ?_
  refine kp [0,3,4,11] ?_
  refine W_cond rfl (fun q3=>?_) (fun q3=>?_)
  ·have hk1:k < x1.length:=by simpa using q3
   obtain ⟨g1,o1,rfl⟩:=rd_addr h1 hk1
   obtain ⟨u1,hu1⟩:=getEl hk1
   have hub:Bk.bulk u1≤1048576:=by have:=bulk_mem (List.mem_of_getElem? hu1);omega
   refine s8 ?_
   refine L_indexAddr rfl rfl rfl el65.h rfl (by omega) ?_
   refine L_load0 rfl rfl (by first | exact RdC.blk mm | exact RdC.old (Cells.el h1 rfl hu1)) one9.h rfl ?_
   refine L_indexAddr rfl rfl rfl el65.h rfl (by omega) ?_
   obtain ⟨u0,hu0⟩:=getEl (show k < cur.length by omega)
   refine L_storeElV u1 rfl rfl pk rfl hu0 rfl (flat_str (h1.2.2.1 _ (List.mem_of_getElem? hu1))) (.inr ⟨one9.h,rfl⟩) ?_
   refine s3 ?_
   refine L_binV rfl rfl rfl (bv_addR (by unfold inR;omega)) ?_
   refine s2 ?_
   refine ⟨(k+1,cur.set k u1),sb,ms,?_,?_⟩
   ·exact ⟨by dsimp only;omega,by simpa using hlen,map_take_set GT.dat GT.dat hdat (by omega) hu1 rfl⟩
   ·dsimp only;omega
  ·refine W_exit ?_
   refine s6 ?_
   refine res1 rfl (ResOK.tmp rfl) ⟨⟨some ⟨g,0,none⟩,x1.length,9,cur,[]⟩,?_,?_,rfl⟩ ms
   ·show _=Value.slice _ cur.length _
    rw [hlen]
   ·have hk2:x1.length≤k:=by simpa using q3
    rw [List.take_of_length_le (by omega),List.take_of_length_le (by omega)] at hdat
    exact hdat
theorem eqCmd_spec (w:World) (t1 t2:T_Cmd) (h1:GT.rd w [] t1) (h2:GT.rd w [] t2):Spec Tryz.prog 135 [.agg (GT.cells t1).toArray,.agg (GT.cells t2).toArray].toArray w [] (IsV (.bool (eqB (GT.dat t1) (GT.dat t2)))):=by
 obtain ⟨a1,a2,a3,a4,a5,a6,a7,a8⟩:=t1
 obtain ⟨b1,b2,b3,b4,b5,b6,b7,b8⟩:=t2
 change Spec _ _ [Value.agg #[.int .i64 a1,.int .i64 a2,.int .i64 a3,.string a4,.string a5,.string a6,.int .i64 a7,a8.hdr],Value.agg #[.int .i64 b1,.int .i64 b2,.int .i64 b3,.string b4,.string b5,.string b6,.int .i64 b7,b8.hdr]].toArray w [] _
 refine Spec.intro Tryz.func135 rfl Tryz.ntmps135 rfl ?_
 refine s2 ?_
 refine bx fun bk2=>?_
 refine bx fun bk3=>?_
 refine s6 ?_
 refine L_load rfl rfl (by first | exact RdC.blk mm) one3.h rfl ?_
 refine s1 ?_
 refine L_load rfl rfl (by first | exact RdC.blk mm) one3.h rfl ?_
 refine s2 ?_
 refine kp [2,3,9] ?_
 refine W_cond rfl (fun q1=>?_) (fun q1=>?_)
 ·refine s5 ?_
  refine res1 rfl (ResOK.tmp rfl) ⟨?_,rfl⟩ ms
  clear h1 h2
  exact eqy
 ·refine s5 ?_
  refine L_load rfl rfl (by first | exact RdC.blk mm) one3.h rfl ?_
  refine s1 ?_
  refine L_load rfl rfl (by first | exact RdC.blk mm) one3.h rfl ?_
  refine s2 ?_
  refine kp [2,3,14] ?_
  refine W_cond rfl (fun q3=>?_) (fun q3=>?_)
  ·refine s5 ?_
   refine res1 rfl (ResOK.tmp rfl) ⟨?_,rfl⟩ ms
   clear h1 h2
   exact eqy
  ·refine s5 ?_
   refine L_load rfl rfl (by first | exact RdC.blk mm) one3.h rfl ?_
   refine s1 ?_
   refine L_load rfl rfl (by first | exact RdC.blk mm) one3.h rfl ?_
   refine s2 ?_
   refine kp [2,3,19] ?_
   refine W_cond rfl (fun q5=>?_) (fun q5=>?_)
   ·refine s5 ?_
    refine res1 rfl (ResOK.tmp rfl) ⟨?_,rfl⟩ ms
    clear h1 h2
    exact eqy
   ·refine s5 ?_
    refine L_load rfl rfl (by first | exact RdC.blk mm) one9.h rfl ?_
    refine s1 ?_
    refine L_load rfl rfl (by first | exact RdC.blk mm) one9.h rfl ?_
    refine s2 ?_
    refine kp [2,3,24] ?_
    refine W_cond rfl (fun q7=>?_) (fun q7=>?_)
    ·refine s5 ?_
     refine res1 rfl (ResOK.tmp rfl) ⟨?_,rfl⟩ ms
     clear h1 h2
     exact eqy
    ·refine s5 ?_
     refine L_load rfl rfl (by first | exact RdC.blk mm) one9.h rfl ?_
     refine s1 ?_
     refine L_load rfl rfl (by first | exact RdC.blk mm) one9.h rfl ?_
     refine s2 ?_
     refine kp [2,3,29] ?_
     refine W_cond rfl (fun q9=>?_) (fun q9=>?_)
     ·refine s5 ?_
      refine res1 rfl (ResOK.tmp rfl) ⟨?_,rfl⟩ ms
      clear h1 h2
      exact eqy
     ·refine s5 ?_
      refine L_load rfl rfl (by first | exact RdC.blk mm) one9.h rfl ?_
      refine s1 ?_
      refine L_load rfl rfl (by first | exact RdC.blk mm) one9.h rfl ?_
      refine s2 ?_
      refine kp [2,3,34] ?_
      refine W_cond rfl (fun q11=>?_) (fun q11=>?_)
      ·refine s5 ?_
       refine res1 rfl (ResOK.tmp rfl) ⟨?_,rfl⟩ ms
       clear h1 h2
       exact eqy
      ·refine s5 ?_
       refine L_load rfl rfl (by first | exact RdC.blk mm) one3.h rfl ?_
       refine s1 ?_
       refine L_load rfl rfl (by first | exact RdC.blk mm) one3.h rfl ?_
       refine s2 ?_
       refine kp [2,3,39] ?_
       refine W_cond rfl (fun q13=>?_) (fun q13=>?_)
       ·refine s5 ?_
        refine res1 rfl (ResOK.tmp rfl) ⟨?_,rfl⟩ ms
        clear h1 h2
        exact eqy
       ·refine s5 ?_
        refine L_load rfl rfl (by first | exact RdC.blk mm) one65.h rfl ?_
        refine s1 ?_
        refine L_load rfl rfl (by first | exact RdC.blk mm) one65.h rfl ?_
        refine L_callX rfl fn199.h rfl (by exact fun w hw=>eqStringS_spec w _ _ (rd_carry (h1.2.2.2.2.2.2.2) hw) (rd_carry (h2.2.2.2.2.2.2.2) hw)) ?_
        refine s2 ?_
        refine kp [45] ?_
        refine W_cond rfl (fun q15=>?_) (fun q15=>?_)
        ·refine s5 ?_
         refine res1 rfl (ResOK.tmp rfl) ⟨?_,rfl⟩ ms
         clear h1 h2
         exact eqy
        ·refine s6 ?_
         refine res1 rfl (ResOK.tmp rfl) ⟨?_,rfl⟩ ms
         clear h1 h2
         exact eqy
theorem szCmd_spec (w:World) (t1:T_Cmd) (left:Int) (hl:0≤left) (hm:left≤1048576) (h1:GT.rd w [] t1) (ho:Ok.ok (GT.dat t1)):Spec Tryz.prog 104 [.agg (GT.cells t1).toArray,.int .i64 left].toArray w [] (IsV (.int .i64 (if (Bk.bulk t1:Int)≤left then left - (Bk.bulk t1:Int) else -1))):=by
 obtain ⟨a1,a2,a3,a4,a5,a6,a7,a8⟩:=t1
 have hs3:a4.size≤9223372036854775807:=ho.2.2.2.1
 have hs4:a5.size≤9223372036854775807:=ho.2.2.2.2.1
 have hs5:a6.size≤9223372036854775807:=ho.2.2.2.2.2.1
 change Spec _ _ [Value.agg #[.int .i64 a1,.int .i64 a2,.int .i64 a3,.string a4,.string a5,.string a6,.int .i64 a7,a8.hdr],.int .i64 left].toArray w [] _
 refine Spec.intro Tryz.func104 rfl Tryz.ntmps104 rfl ?_
 refine s2 ?_
 refine bx fun bk2=>?_
 refine s6 ?_
 refine L_load rfl rfl (by first | exact RdC.blk mm) one9.h rfl ?_
 refine s1 ?_
 refine L_binV rfl rfl rfl (bv_subR (by unfold inR;omega)) ?_
 refine s8 ?_
 refine kp [1,2,11] ?_
 refine W_cond rfl (fun q2=>?_) (fun q2=>?_)
 ·have hb3:left - (a4.size:Int) < 0:=by simpa using q2
  refine s5 ?_
  refine res1 rfl (ResOK.tmp rfl) ⟨?_,rfl⟩ ms
  try simp only [bulk_pair,bulk_int,bulk_bool,bulk_str,Int.natCast_add,Int.natCast_zero] at *
  all_goals first
   | rfl
   | (rw [if_pos (by omega)]<;>(congr 1<;>omega))
   | (rw [if_neg (by omega)])
 ·have hb3:¬ (left - (a4.size:Int) < 0):=by simpa using q2
  refine s5 ?_
  refine L_load rfl rfl (by first | exact RdC.blk mm) one9.h rfl ?_
  refine s1 ?_
  refine L_binV rfl rfl rfl (bv_subR (by unfold inR;omega)) ?_
  refine s8 ?_
  refine kp [1,2,18] ?_
  refine W_cond rfl (fun q5=>?_) (fun q5=>?_)
  ·have hb4:left - (a4.size:Int) - (a5.size:Int) < 0:=by simpa using q5
   refine s5 ?_
   refine res1 rfl (ResOK.tmp rfl) ⟨?_,rfl⟩ ms
   try simp only [bulk_pair,bulk_int,bulk_bool,bulk_str,Int.natCast_add,Int.natCast_zero] at *
   all_goals first
    | rfl
    | (rw [if_pos (by omega)]<;>(congr 1<;>omega))
    | (rw [if_neg (by omega)])
  ·have hb4:¬ (left - (a4.size:Int) - (a5.size:Int) < 0):=by simpa using q5
   refine s5 ?_
   refine L_load rfl rfl (by first | exact RdC.blk mm) one9.h rfl ?_
   refine s1 ?_
   refine L_binV rfl rfl rfl (bv_subR (by unfold inR;omega)) ?_
   refine s8 ?_
   refine kp [1,2,25] ?_
   refine W_cond rfl (fun q8=>?_) (fun q8=>?_)
   ·have hb5:left - (a4.size:Int) - (a5.size:Int) - (a6.size:Int) < 0:=by simpa using q8
    refine s5 ?_
    refine res1 rfl (ResOK.tmp rfl) ⟨?_,rfl⟩ ms
    try simp only [bulk_pair,bulk_int,bulk_bool,bulk_str,Int.natCast_add,Int.natCast_zero] at *
    all_goals first
     | rfl
     | (rw [if_pos (by omega)]<;>(congr 1<;>omega))
     | (rw [if_neg (by omega)])
   ·have hb5:¬ (left - (a4.size:Int) - (a5.size:Int) - (a6.size:Int) < 0):=by simpa using q8
    refine s4 ?_
    refine L_load rfl rfl (by first | exact RdC.blk mm) one65.h rfl ?_
    refine s1 ?_
    refine L_callX rfl fn170.h rfl (by exact fun w hw=>szStringS_spec w _ (left - (a4.size:Int) - (a5.size:Int) - (a6.size:Int)) (by omega) (by omega) (rd_carry (h1.2.2.2.2.2.2.2) hw) ho.2.2.2.2.2.2.2) ?_
    refine s8 ?_
    refine kp [1,31] ?_
    refine W_cond rfl (fun q11=>?_) (fun q11=>?_)
    ·have hb7:¬ ((Bk.bulk a8:Int)≤left - (a4.size:Int) - (a5.size:Int) - (a6.size:Int)):=by
      intro hn
      rw [if_pos hn] at q11;simp at q11;omega
     refine s5 ?_
     refine res1 rfl (ResOK.tmp rfl) ⟨?_,rfl⟩ ms
     try simp only [bulk_pair,bulk_int,bulk_bool,bulk_str,Int.natCast_add,Int.natCast_zero] at *
     all_goals first
      | rfl
      | (rw [if_pos (by omega)]<;>(congr 1<;>omega))
      | (rw [if_neg (by omega)])
    ·have hb7:(Bk.bulk a8:Int)≤left - (a4.size:Int) - (a5.size:Int) - (a6.size:Int):=by
      rcases Int.decLt (left - (a4.size:Int) - (a5.size:Int) - (a6.size:Int)) (Bk.bulk a8:Int) with hn | hn
      ·omega
      ·rw [if_neg (by omega)] at q11;simp at q11
     rw [if_pos hb7]
     refine s7 ?_
     refine res1 rfl (ResOK.tmp rfl) ⟨?_,rfl⟩ ms
     try simp only [bulk_pair,bulk_int,bulk_bool,bulk_str,Int.natCast_add,Int.natCast_zero] at *
     all_goals first
      | rfl
      | (rw [if_pos (by omega)]<;>(congr 1<;>omega))
      | (rw [if_neg (by omega)])
theorem toCmd_spec (w:World) (t1:T_Cmd) (h1:GT.rd w [] t1) (hb:Bk.bulk t1≤1048576):Spec Tryz.prog 117 [.agg (GT.cells t1).toArray].toArray w [] (fun v M=>∃ t2:T_Cmd,v=.agg (GT.cells t2).toArray∧GT.dat t2=GT.dat t1∧M=[treeH t2]):=by
 obtain ⟨a1,a2,a3,a4,a5,a6,a7,a8⟩:=t1
 have hbk_7:Bk.bulk a8≤1048576:=by (try simp only [bulk_pair,bulk_int,bulk_bool,bulk_str] at hb ⊢);omega
 change Spec _ _ [Value.agg #[.int .i64 a1,.int .i64 a2,.int .i64 a3,.string a4,.string a5,.string a6,.int .i64 a7,a8.hdr]].toArray w [] _
 refine Spec.intro Tryz.func117 rfl Tryz.ntmps117 rfl ?_
 refine s2 ?_
 refine bx fun bk1=>?_
 refine al fun bk2=>?_
 refine s3 ?_
 refine al fun bk3=>?_
 refine s4 ?_
 refine L_load rfl rfl (by first | exact RdC.blk mm) one3.h rfl ?_
 refine s6 ?_
 refine L_load rfl rfl (by first | exact RdC.blk mm) one3.h rfl ?_
 refine s6 ?_
 refine L_load rfl rfl (by first | exact RdC.blk mm) one3.h rfl ?_
 refine s6 ?_
 refine L_load rfl rfl (by first | exact RdC.blk mm) one9.h rfl ?_
 refine s6 ?_
 refine L_load rfl rfl (by first | exact RdC.blk mm) one9.h rfl ?_
 refine s6 ?_
 refine L_load rfl rfl (by first | exact RdC.blk mm) one9.h rfl ?_
 refine s6 ?_
 refine L_load rfl rfl (by first | exact RdC.blk mm) one3.h rfl ?_
 refine s6 ?_
 refine L_load rfl rfl (by first | exact RdC.blk mm) one65.h rfl ?_
 refine L_callR rfl fn178.h rfl (by exact fun w hw=>toStringS_spec w _ (rd_carry (h1.2.2.2.2.2.2.2) hw) hbk_7) ?_
 rintro v M1 ⟨n8t,hv,hd7,rfl⟩
 subst hv
 simp only [List.cons_append,List.nil_append]
 refine s5 ?_
 refine L_loadW rfl rfl (by first | exact RdC.blk mm) (by exact agg69.h) ?_
 refine L_storeW rfl rfl pk (by exact agg69.h) (by rfl) (by first | (simp [Value.oneCell',TL.hdr];done) | (simp [Value.oneCell',TL.hdr,Value.cells];done) | exact fun v hv=>GT.one _ v hv) ?_
 refine s1 ?_
 refine W_conv (M':=treeH ((a1,a2,a3,a4,a5,a6,a7,n8t):T_Cmd)::_) (fun w h=>(tree_snd (flat_int (h1.1)) (tree_snd (flat_int (h1.2.1)) (tree_snd (flat_int (h1.2.2.1)) (tree_snd (flat_str (h1.2.2.2.1)) (tree_snd (flat_str (h1.2.2.2.2.1)) (tree_snd (flat_str (h1.2.2.2.2.2.1)) (tree_snd (flat_int (h1.2.2.2.2.2.2.1)) (frontPick pk h))))))))) ?_
 refine s1 ?_
 refine res1 rfl (ResOK.cell rfl mm (by exact agg69.h)) ⟨(a1,a2,a3,a4,a5,a6,a7,n8t),rfl,by simp only [dat_pair,hd7],rfl⟩ ms
end Go.Proofs.SL
namespace Go.Proofs.SL
open Go
set_option maxHeartbeats 2000000
instance fn135:FnF Tryz.prog 135:=⟨_,Tryz.func135,by kernel_rfl,rfl⟩
instance fn136:FnF Tryz.prog 136:=⟨_,Tryz.func136,by kernel_rfl,rfl⟩
instance fld102_4:FldF Tryz.prog 102 4 5:=⟨by kernel_rfl⟩
instance agg99:AggF Tryz.prog 99 8:=⟨by kernel_rfl⟩
instance fn104:FnF Tryz.prog 104:=⟨_,Tryz.func104,by kernel_rfl,rfl⟩
instance fld102_6:FldF Tryz.prog 102 6 14:=⟨by kernel_rfl⟩
instance one100:OneF Tryz.prog 100:=⟨by kernel_rfl⟩
instance fn105:FnF Tryz.prog 105:=⟨_,Tryz.func105,by kernel_rfl,rfl⟩
instance fld102_0:FldF Tryz.prog 102 0 0:=⟨by kernel_rfl⟩
instance fld102_1:FldF Tryz.prog 102 1 2:=⟨by kernel_rfl⟩
instance fld102_2:FldF Tryz.prog 102 2 3:=⟨by kernel_rfl⟩
instance fld102_3:FldF Tryz.prog 102 3 4:=⟨by kernel_rfl⟩
instance fn117:FnF Tryz.prog 117:=⟨_,Tryz.func117,by kernel_rfl,rfl⟩
instance fld102_5:FldF Tryz.prog 102 5 13:=⟨by kernel_rfl⟩
instance fn118:FnF Tryz.prog 118:=⟨_,Tryz.func118,by kernel_rfl,rfl⟩
instance fld102_7:FldF Tryz.prog 102 7 15:=⟨by kernel_rfl⟩
instance fn79:FnF Tryz.prog 79:=⟨_,Tryz.func79,by kernel_rfl,rfl⟩
instance el22:ElF Tryz.prog 22 102 16 184 [.int .i64 0,.int .i64 0,.int .i64 0,.int .i64 0,.int .i64 0,.int .i64 0,.int .i64 0,.int .i64 0,.string ByteArray.empty,.string ByteArray.empty,.string ByteArray.empty,.int .i64 0,.slice none 0 0,.int .i64 0,.slice none 0 0,.bool false]:=⟨by kernel_rfl⟩
instance agg102:AggF Tryz.prog 102 16:=⟨by kernel_rfl⟩
instance fn60:FnF Tryz.prog 60:=⟨_,Tryz.func60,by kernel_rfl,rfl⟩
instance fn69:FnF Tryz.prog 69:=⟨_,Tryz.func69,by kernel_rfl,rfl⟩
theorem eqInst_spec (w:World) (t1 t2:T_Inst) (h1:GT.rd w [] t1) (h2:GT.rd w [] t2):Spec Tryz.prog 79 [.agg (GT.cells t1).toArray,.agg (GT.cells t2).toArray].toArray w [] (IsV (.bool (eqB (GT.dat t1) (GT.dat t2)))):=by
 obtain ⟨⟨a11,a12⟩,a2,a3,a4,⟨a51,a52,a53,a54,a55,a56,a57,a58⟩,a6,a7,a8⟩:=t1
 obtain ⟨⟨b11,b12⟩,b2,b3,b4,⟨b51,b52,b53,b54,b55,b56,b57,b58⟩,b6,b7,b8⟩:=t2
 change Spec _ _ [Value.agg #[.int .i64 a11,.int .i64 a12,.int .i64 a2,.int .i64 a3,.int .i64 a4,.int .i64 a51,.int .i64 a52,.int .i64 a53,.string a54,.string a55,.string a56,.int .i64 a57,a58.hdr,.int .i64 a6,a7.hdr,.bool a8],Value.agg #[.int .i64 b11,.int .i64 b12,.int .i64 b2,.int .i64 b3,.int .i64 b4,.int .i64 b51,.int .i64 b52,.int .i64 b53,.string b54,.string b55,.string b56,.int .i64 b57,b58.hdr,.int .i64 b6,b7.hdr,.bool b8]].toArray w [] _
 refine Spec.intro Tryz.func79 rfl Tryz.ntmps79 rfl ?_
 refine s2 ?_
 refine bx fun bk2=>?_
 refine bx fun bk3=>?_
 refine s6 ?_
 refine L_loadW rfl rfl (RdC.seg (by first | exact RdC.blk mm) 0 2 rfl) (by exact agg92.h) ?_
 refine s1 ?_
 refine L_loadW rfl rfl (RdC.seg (by first | exact RdC.blk mm) 0 2 rfl) (by exact agg92.h) ?_
 refine L_callX rfl fn134.h rfl (by exact fun w hw=>eqId_spec w (a11,a12) (b11,b12) (rd_carry (h1.1) hw) (rd_carry (h2.1) hw)) ?_
 refine s2 ?_
 refine kp [2,3,10] ?_
 refine W_cond rfl (fun q1=>?_) (fun q1=>?_)
 ·refine s5 ?_
  refine res1 rfl (ResOK.tmp rfl) ⟨?_,rfl⟩ ms
  clear h1 h2
  exact eqx
 ·refine s5 ?_
  refine L_load rfl rfl (by first | exact RdC.blk mm) one3.h rfl ?_
  refine s1 ?_
  refine L_load rfl rfl (by first | exact RdC.blk mm) one3.h rfl ?_
  refine s2 ?_
  refine kp [2,3,15] ?_
  refine W_cond rfl (fun q3=>?_) (fun q3=>?_)
  ·refine s5 ?_
   refine res1 rfl (ResOK.tmp rfl) ⟨?_,rfl⟩ ms
   clear h1 h2
   exact eqx
  ·refine s5 ?_
   refine L_load rfl rfl (by first | exact RdC.blk mm) one3.h rfl ?_
   refine s1 ?_
   refine L_load rfl rfl (by first | exact RdC.blk mm) one3.h rfl ?_
   refine s2 ?_
   refine kp [2,3,20] ?_
   refine W_cond rfl (fun q5=>?_) (fun q5=>?_)
   ·refine s5 ?_
    refine res1 rfl (ResOK.tmp rfl) ⟨?_,rfl⟩ ms
    clear h1 h2
    exact eqx
   ·refine s5 ?_
    refine L_load rfl rfl (by first | exact RdC.blk mm) one3.h rfl ?_
    refine s1 ?_
    refine L_load rfl rfl (by first | exact RdC.blk mm) one3.h rfl ?_
    refine s2 ?_
    refine kp [2,3,25] ?_
    refine W_cond rfl (fun q7=>?_) (fun q7=>?_)
    ·refine s5 ?_
     refine res1 rfl (ResOK.tmp rfl) ⟨?_,rfl⟩ ms
     clear h1 h2
     exact eqx
    ·refine s5 ?_
     refine L_loadW rfl rfl (RdC.seg (by first | exact RdC.blk mm) 5 8 rfl) (by exact agg69.h) ?_
     refine s1 ?_
     refine L_loadW rfl rfl (RdC.seg (by first | exact RdC.blk mm) 5 8 rfl) (by exact agg69.h) ?_
     refine L_callX rfl fn135.h rfl (by exact fun w hw=>eqCmd_spec w (a51,a52,a53,a54,a55,a56,a57,a58) (b51,b52,b53,b54,b55,b56,b57,b58) (rd_carry (h1.2.2.2.2.1) hw) (rd_carry (h2.2.2.2.2.1) hw)) ?_
     refine s2 ?_
     refine kp [2,3,31] ?_
     refine W_cond rfl (fun q9=>?_) (fun q9=>?_)
     ·refine s5 ?_
      refine res1 rfl (ResOK.tmp rfl) ⟨?_,rfl⟩ ms
      clear h1 h2
      exact eqx
     ·refine s5 ?_
      refine L_load rfl rfl (by first | exact RdC.blk mm) one3.h rfl ?_
      refine s1 ?_
      refine L_load rfl rfl (by first | exact RdC.blk mm) one3.h rfl ?_
      refine s2 ?_
      refine kp [2,3,36] ?_
      refine W_cond rfl (fun q11=>?_) (fun q11=>?_)
      ·refine s5 ?_
       refine res1 rfl (ResOK.tmp rfl) ⟨?_,rfl⟩ ms
       clear h1 h2
       exact eqx
      ·refine s5 ?_
       refine L_load rfl rfl (by first | exact RdC.blk mm) one85.h rfl ?_
       refine s1 ?_
       refine L_load rfl rfl (by first | exact RdC.blk mm) one85.h rfl ?_
       refine L_callX rfl fn136.h rfl (by exact fun w hw=>eqIdS_spec w _ _ (rd_carry (h1.2.2.2.2.2.2.1) hw) (rd_carry (h2.2.2.2.2.2.2.1) hw)) ?_
       refine s2 ?_
       refine kp [2,3,42] ?_
       refine W_cond rfl (fun q13=>?_) (fun q13=>?_)
       ·refine s5 ?_
        refine res1 rfl (ResOK.tmp rfl) ⟨?_,rfl⟩ ms
        clear h1 h2
        exact eqx
       ·refine s5 ?_
        refine L_load rfl rfl (by first | exact RdC.blk mm) one4.h rfl ?_
        refine s1 ?_
        refine L_load rfl rfl (by first | exact RdC.blk mm) one4.h rfl ?_
        refine s2 ?_
        refine kp [47] ?_
        refine W_cond rfl (fun q15=>?_) (fun q15=>?_)
        ·refine s5 ?_
         refine res1 rfl (ResOK.tmp rfl) ⟨?_,rfl⟩ ms
         clear h1 h2
         exact eqx
        ·refine s6 ?_
         refine res1 rfl (ResOK.tmp rfl) ⟨?_,rfl⟩ ms
         clear h1 h2
         exact eqx
theorem szInst_spec (w:World) (t1:T_Inst) (left:Int) (hl:0≤left) (hm:left≤1048576) (h1:GT.rd w [] t1) (ho:Ok.ok (GT.dat t1)):Spec Tryz.prog 60 [.agg (GT.cells t1).toArray,.int .i64 left].toArray w [] (IsV (.int .i64 (if (Bk.bulk t1:Int)≤left then left - (Bk.bulk t1:Int) else -1))):=by
 obtain ⟨⟨a11,a12⟩,a2,a3,a4,⟨a51,a52,a53,a54,a55,a56,a57,a58⟩,a6,a7,a8⟩:=t1
 change Spec _ _ [Value.agg #[.int .i64 a11,.int .i64 a12,.int .i64 a2,.int .i64 a3,.int .i64 a4,.int .i64 a51,.int .i64 a52,.int .i64 a53,.string a54,.string a55,.string a56,.int .i64 a57,a58.hdr,.int .i64 a6,a7.hdr,.bool a8],.int .i64 left].toArray w [] _
 refine Spec.intro Tryz.func60 rfl Tryz.ntmps60 rfl ?_
 refine s2 ?_
 refine bx fun bk2=>?_
 refine s5 ?_
 refine L_loadW rfl rfl (RdC.seg (by first | exact RdC.blk mm) 5 8 rfl) (by exact agg99.h) ?_
 refine s1 ?_
 refine L_callX rfl fn104.h rfl (by exact fun w hw=>szCmd_spec w (a51,a52,a53,a54,a55,a56,a57,a58) (left) (by omega) (by omega) (rd_carry (h1.2.2.2.2.1) hw) ho.2.2.2.2.1) ?_
 refine s8 ?_
 refine kp [1,2,10] ?_
 refine W_cond rfl (fun q2=>?_) (fun q2=>?_)
 ·have hb4:¬ ((Bk.bulk (a51,a52,a53,a54,a55,a56,a57,a58):Int)≤left):=by
   intro hn
   rw [if_pos hn] at q2;simp at q2;omega
  refine s5 ?_
  refine res1 rfl (ResOK.tmp rfl) ⟨?_,rfl⟩ ms
  try simp only [bulk_pair,bulk_int,bulk_bool,bulk_str,Int.natCast_add,Int.natCast_zero] at *
  all_goals first
   | rfl
   | (rw [if_pos (by omega)]<;>(congr 1<;>omega))
   | (rw [if_neg (by omega)])
 ·have hb4:(Bk.bulk (a51,a52,a53,a54,a55,a56,a57,a58):Int)≤left:=by
   rcases Int.decLt (left) (Bk.bulk (a51,a52,a53,a54,a55,a56,a57,a58):Int) with hn | hn
   ·omega
   ·rw [if_neg (by omega)] at q2;simp at q2
  rw [if_pos hb4]
  refine s4 ?_
  refine L_load rfl rfl (by first | exact RdC.blk mm) one100.h rfl ?_
  refine s1 ?_
  refine L_callX rfl fn105.h rfl (by exact fun w hw=>szIdS_spec w _ (left - (Bk.bulk (a51,a52,a53,a54,a55,a56,a57,a58):Int)) (by omega) (by omega) (rd_carry (h1.2.2.2.2.2.2.1) hw) ho.2.2.2.2.2.2.1) ?_
  refine s8 ?_
  refine kp [1,16] ?_
  refine W_cond rfl (fun q5=>?_) (fun q5=>?_)
  ·have hb6:¬ ((Bk.bulk a7:Int)≤left - (Bk.bulk (a51,a52,a53,a54,a55,a56,a57,a58):Int)):=by
    intro hn
    rw [if_pos hn] at q5;simp at q5;omega
   refine s5 ?_
   refine res1 rfl (ResOK.tmp rfl) ⟨?_,rfl⟩ ms
   try simp only [bulk_pair,bulk_int,bulk_bool,bulk_str,Int.natCast_add,Int.natCast_zero] at *
   all_goals first
    | rfl
    | (rw [if_pos (by omega)]<;>(congr 1<;>omega))
    | (rw [if_neg (by omega)])
  ·have hb6:(Bk.bulk a7:Int)≤left - (Bk.bulk (a51,a52,a53,a54,a55,a56,a57,a58):Int):=by
    rcases Int.decLt (left - (Bk.bulk (a51,a52,a53,a54,a55,a56,a57,a58):Int)) (Bk.bulk a7:Int) with hn | hn
    ·omega
    ·rw [if_neg (by omega)] at q5;simp at q5
   rw [if_pos hb6]
   refine s7 ?_
   refine res1 rfl (ResOK.tmp rfl) ⟨?_,rfl⟩ ms
   try simp only [bulk_pair,bulk_int,bulk_bool,bulk_str,Int.natCast_add,Int.natCast_zero] at *
   all_goals first
    | rfl
    | (rw [if_pos (by omega)]<;>(congr 1<;>omega))
    | (rw [if_neg (by omega)])
theorem toInst_spec (w:World) (t1:T_Inst) (h1:GT.rd w [] t1) (hb:Bk.bulk t1≤1048576):Spec Tryz.prog 69 [.agg (GT.cells t1).toArray].toArray w [] (fun v M=>∃ t2:T_Inst,v=.agg (GT.cells t2).toArray∧GT.dat t2=GT.dat t1∧M=[treeH t2]):=by
 obtain ⟨⟨a11,a12⟩,a2,a3,a4,⟨a51,a52,a53,a54,a55,a56,a57,a58⟩,a6,a7,a8⟩:=t1
 have hbk_0:Bk.bulk (a11,a12)≤1048576:=by (try simp only [bulk_pair,bulk_int,bulk_bool,bulk_str] at hb ⊢);omega
 have hbk_4:Bk.bulk (a51,a52,a53,a54,a55,a56,a57,a58)≤1048576:=by (try simp only [bulk_pair,bulk_int,bulk_bool,bulk_str] at hb ⊢);omega
 have hbk_6:Bk.bulk a7≤1048576:=by (try simp only [bulk_pair,bulk_int,bulk_bool,bulk_str] at hb ⊢);omega
 change Spec _ _ [Value.agg #[.int .i64 a11,.int .i64 a12,.int .i64 a2,.int .i64 a3,.int .i64 a4,.int .i64 a51,.int .i64 a52,.int .i64 a53,.string a54,.string a55,.string a56,.int .i64 a57,a58.hdr,.int .i64 a6,a7.hdr,.bool a8]].toArray w [] _
 refine Spec.intro Tryz.func69 rfl Tryz.ntmps69 rfl ?_
 refine s2 ?_
 refine bx fun bk1=>?_
 refine al fun bk2=>?_
 refine s3 ?_
 refine al fun bk3=>?_
 refine s4 ?_
 refine L_loadW rfl rfl (RdC.seg (by first | exact RdC.blk mm) 0 2 rfl) (by exact agg98.h) ?_
 refine L_callR rfl fn116.h rfl (by exact fun w hw=>toId_spec w (a11,a12) (rd_carry (h1.1) hw) hbk_0) ?_
 rintro v M1 ⟨n1t,hv,hd0,rfl⟩
 obtain ⟨n11,n12⟩:=n1t
 subst hv
 simp only [List.cons_append,List.nil_append]
 refine s1 ?_
 refine L_storeA (fo:=0) rfl rfl pk (by exact agg92.h) (Nat.le_of_ble_eq_true rfl) (by first | (simp [Value.oneCell',TL.hdr];done) | (simp [Value.oneCell',TL.hdr,Value.cells];done) | exact fun v hv=>GT.one _ v hv) (by simp only [cells_pair,cells_int,cells_bool,cells_str,cells_TL,List.take_zero,List.take_succ_cons,List.drop_zero,List.drop_succ_cons,List.set_cons_zero,List.set_cons_succ,List.length_cons,List.length_nil,List.cons_append,List.nil_append,List.append_nil,Nat.zero_add,Nat.reduceAdd];rfl) ?_
 refine s4 ?_
 refine L_load rfl rfl (by first | exact RdC.blk mm) one3.h rfl ?_
 refine s6 ?_
 refine L_load rfl rfl (by first | exact RdC.blk mm) one3.h rfl ?_
 refine s6 ?_
 refine L_load rfl rfl (by first | exact RdC.blk mm) one3.h rfl ?_
 refine s6 ?_
 refine L_loadW rfl rfl (RdC.seg (by first | exact RdC.blk mm) 5 8 rfl) (by exact agg99.h) ?_
 refine L_callR rfl fn117.h rfl (by exact fun w hw=>toCmd_spec w (a51,a52,a53,a54,a55,a56,a57,a58) (rd_carry (h1.2.2.2.2.1) hw) hbk_4) ?_
 rintro v M1 ⟨n5t,hv,hd4,rfl⟩
 obtain ⟨n51,n52,n53,n54,n55,n56,n57,n58⟩:=n5t
 subst hv
 simp only [List.cons_append,List.nil_append]
 refine s1 ?_
 refine L_storeA (fo:=5) rfl rfl pk (by exact agg69.h) (Nat.le_of_ble_eq_true rfl) (by first | (simp [Value.oneCell',TL.hdr];done) | (simp [Value.oneCell',TL.hdr,Value.cells];done) | exact fun v hv=>GT.one _ v hv) (by simp only [cells_pair,cells_int,cells_bool,cells_str,cells_TL,List.take_zero,List.take_succ_cons,List.drop_zero,List.drop_succ_cons,List.set_cons_zero,List.set_cons_succ,List.length_cons,List.length_nil,List.cons_append,List.nil_append,List.append_nil,Nat.zero_add,Nat.reduceAdd];rfl) ?_
 refine s4 ?_
 refine L_load rfl rfl (by first | exact RdC.blk mm) one3.h rfl ?_
 refine s6 ?_
 refine L_load rfl rfl (by first | exact RdC.blk mm) one100.h rfl ?_
 refine L_callR rfl fn118.h rfl (by exact fun w hw=>toIdS_spec w _ (rd_carry (h1.2.2.2.2.2.2.1) hw) hbk_6) ?_
 rintro v M1 ⟨n7t,hv,hd6,rfl⟩
 subst hv
 simp only [List.cons_append,List.nil_append]
 refine s6 ?_
 refine L_load rfl rfl (by first | exact RdC.blk mm) one4.h rfl ?_
 refine s5 ?_
 refine L_loadW rfl rfl (by first | exact RdC.blk mm) (by exact agg111.h) ?_
 refine L_storeW rfl rfl pk (by exact agg111.h) (by rfl) (by first | (simp [Value.oneCell',TL.hdr];done) | (simp [Value.oneCell',TL.hdr,Value.cells];done) | exact fun v hv=>GT.one _ v hv) ?_
 refine s1 ?_
 refine W_conv (M':=treeH (n7t,a8)::_) (fun w h=>pairPick pk (h.addFlat (flat_bool _))) ?_
 refine W_conv (M':=treeH (a6,n7t,a8)::_) (fun w h=>tree_snd (flat_int (h1.2.2.2.2.2.1)) h) ?_
 refine W_conv (M':=treeH ((n51,n52,n53,n54,n55,n56,n57,n58),a6,n7t,a8)::_) (fun w h=>pairPick pk h) ?_
 refine W_conv (M':=treeH (a4,(n51,n52,n53,n54,n55,n56,n57,n58),a6,n7t,a8)::_) (fun w h=>tree_snd (flat_int (h1.2.2.2.1)) h) ?_
 refine W_conv (M':=treeH (a3,a4,(n51,n52,n53,n54,n55,n56,n57,n58),a6,n7t,a8)::_) (fun w h=>tree_snd (flat_int (h1.2.2.1)) h) ?_
 refine W_conv (M':=treeH (a2,a3,a4,(n51,n52,n53,n54,n55,n56,n57,n58),a6,n7t,a8)::_) (fun w h=>tree_snd (flat_int (h1.2.1)) h) ?_
 refine W_conv (M':=treeH ((n11,n12),a2,a3,a4,(n51,n52,n53,n54,n55,n56,n57,n58),a6,n7t,a8)::_) (fun w h=>pairPick pk h) ?_
 refine s1 ?_
 refine res1 rfl (ResOK.cell rfl mm (by exact agg111.h)) ⟨((n11,n12),a2,a3,a4,(n51,n52,n53,n54,n55,n56,n57,n58),a6,n7t,a8),rfl,by simp only [dat_pair,hd0,hd4,hd6],rfl⟩ ms
theorem eqInstS_spec (w:World) (t1 t2:TL T_Inst) (h1:GT.rd w [] t1) (h2:GT.rd w [] t2):Spec Tryz.prog 36 [t1.hdr,t2.hdr].toArray w [] (IsV (.bool (eqB (GT.dat t1) (GT.dat t2)))):=by
 obtain ⟨a1,c1,e1,x1,y1⟩:=t1
 obtain ⟨a2,c2,e2,x2,y2⟩:=t2
 have hm1:x1.length≤9223372036854775807:=rd_len h1
 have hm2:x2.length≤9223372036854775807:=rd_len h2
 dsimp only [TL.hdr]
 refine Spec.intro Tryz.func36 rfl Tryz.ntmps36 rfl ?_
 refine s8 ?_
 refine L_lenS rfl rfl el29.h ?_
 refine s1 ?_
 refine L_lenS rfl rfl el29.h ?_
 refine s2 ?_
 refine kp [0,1,10] ?_
 refine W_cond rfl (fun q1=>?_) (fun q1=>?_)
 ·refine s5 ?_
  refine res1 rfl (ResOK.tmp rfl) ⟨?_,rfl⟩ ms
  refine congrArg Value.bool (Eq.symm (eqB_false.2 fun e=>?_))
  simp at q1
  exact q1 (by have:=congrArg List.length e;simp [dat_TL] at this;omega)
 ·have hl:x1.length=x2.length:=by simp at q1;omega
  refine s7 ?_
  refine W_loopC (σ:=Nat) 0 (fun (k:Nat)=>[(5,.int .i64 (k:Int))]) (fun (k:Nat)=>[]) (fun (k:Nat)=>k≤x1.length∧(x1.map GT.dat).take k=(x2.map GT.dat).take k) (fun (k:Nat)=>x1.length - k) [(0,_),(1,_)] [] ?_ sb ms ?_
  ·exact ⟨Nat.zero_le _,rfl⟩
  ·rintro k ⟨hk,ht⟩
   refine kq [0,1,5] ?_
   refine s5 ?_
   refine L_lenS rfl rfl el29.h ?_
   refine s2 ?_
   refine kp [0,1,5,14] ?_
   refine W_cond rfl (fun q4=>?_) (fun q4=>?_)
   ·have hk1:k < x1.length:=by simpa using q4
    obtain ⟨g1,o1,rfl⟩:=rd_addr h1 hk1
    obtain ⟨g2,o2,rfl⟩:=rd_addr (k:=k) h2 (show k < x2.length by omega)
    obtain ⟨u1,hu1⟩:=getEl hk1
    obtain ⟨u2,hu2⟩:=getEl (show k < x2.length by omega)
    refine s4 ?_
    refine W_D0 [26] mix (by kernel_rfl) rfl ?_
    refine s2 ?_
    refine D_indexAddr _ GC.none (OpV.t rfl) (OpV.t rfl) el29.h (fun hg=>⟨rfl,by (try dsimp only);omega⟩) ?_
    refine D_loadW GC.none (OpV.t rfl) (fun hg=>(by first | exact RdC.blk mm | exact RdC.old (Cells.el h1 rfl hu1) | exact RdC.old (Cells.el h2 rfl hu2))) (by exact agg111.h) ?_
    refine s2 ?_
    refine D_indexAddr _ GC.none (OpV.t rfl) (OpV.t rfl) el29.h (fun hg=>⟨rfl,by (try dsimp only);omega⟩) ?_
    refine D_loadW GC.none (OpV.t rfl) (fun hg=>(by first | exact RdC.blk mm | exact RdC.old (Cells.el h1 rfl hu1) | exact RdC.old (Cells.el h2 rfl hu2))) (by exact agg111.h) ?_
    refine D_callX GC.none fn79.h (OpVs.cons (OpV.t rfl) (OpVs.cons (OpV.t rfl) (OpVs.nil))) (by exact fun hg w F hF hM=>(fun w hw=>eqInst_spec w _ _ (rd_carry (h1.2.2.1 _ (List.mem_of_getElem? hu1)) hw) (rd_carry (h2.2.2.1 _ (List.mem_of_getElem? hu2)) hw)) w hF) ?_
    refine s13 ?_
    refine kp [0,1,5,26] ?_
    refine W_cond rfl (fun q6=>?_) (fun q6=>?_)
    ·refine s5 ?_
     refine res1 rfl (ResOK.tmp rfl) ⟨?_,rfl⟩ ms
     refine congrArg Value.bool (Eq.symm (eqB_false.2 fun e=>?_))
     simp at q6
     replace e:x1.map GT.dat=x2.map GT.dat:=e
     have e2:=congrArg (fun l=>l[k]?) e
     simp only [List.getElem?_map,hu1,hu2,Option.map_some,Option.some.injEq] at e2
     exact q6 (by simpa [dat_int,dat_str,dat_bool] using e2)
    ·refine s3 ?_
     refine L_binV rfl rfl rfl (bv_addR (by unfold inR;omega)) ?_
     refine s2 ?_
     refine ⟨k+1,sb,ms,?_,?_⟩
     ·exact ⟨by omega,take_succ_eq ht (by rw [List.getElem?_map,hu1];rfl) (by rw [List.getElem?_map,hu2];rfl) (by simpa [dat_int,dat_str,dat_bool] using q6)⟩
     ·(try dsimp only);omega
   ·refine W_exit ?_
    refine s5 ?_
    refine res1 rfl (ResOK.tmp rfl) ⟨?_,rfl⟩ ms
    refine congrArg Value.bool (Eq.symm (eqB_true.2 ?_))
    have hk2:x1.length≤k:=by simpa using q4
    have h3:=ht
    rw [List.take_of_length_le (by simp;omega),List.take_of_length_le (by simp;omega)] at h3
    exact h3
theorem szInstS_spec (w:World) (t1:TL T_Inst) (left:Int) (hl:0≤left) (hm:left≤1048576) (h1:GT.rd w [] t1) (ho:Ok.ok (GT.dat t1)):Spec Tryz.prog 25 [t1.hdr,.int .i64 left].toArray w [] (IsV (.int .i64 (if (Bk.bulk t1:Int)≤left then left - (Bk.bulk t1:Int) else -1))):=by
  obtain ⟨a1,c1,e1,x1,y1⟩:=t1
  have hm1:x1.length≤9223372036854775807:=rd_len h1
  rw [bulk_TL]
  dsimp only [TL.hdr]
  refine Spec.intro Tryz.func25 rfl Tryz.ntmps25 rfl ?_
  refine s8 ?_
  refine L_lenS rfl rfl el22.h ?_
  refine L_binV rfl rfl rfl (bv_subR (by unfold inR;omega)) ?_
  refine s8 ?_
  refine kp [0,1,11] ?_
  refine W_cond rfl (fun q2=>?_) (fun q2=>?_)
  · have hb0:left - (x1.length:Int) < 0:=by simpa using q2
    refine s5 ?_
    refine res1 rfl (ResOK.tmp rfl) ⟨?_,rfl⟩ ms
    first
      | (rw [if_neg (by simp only [Int.natCast_add];omega)];done)
      | (rw [if_neg (by have:=bulks_take_le x1 (k+1);simp only [Int.natCast_add];omega)];done)
      | (have hk2:x1.length≤k:=by simpa using q5
         rw [List.take_of_length_le hk2] at ht ⊢
         rw [if_pos (by simp only [Int.natCast_add];omega)];congr 1;simp only [Int.natCast_add];omega)
  · have hb0:¬ (left - (x1.length:Int) < 0):=by simpa using q2
    refine s7 ?_
    have h0:left - (x1.length:Int)=left - (x1.length:Int) - (bulks (x1.take 0):Int):=by simp [bulks]
    rw [h0]
    refine W_loopC (σ:=Nat) 0 (fun (k:Nat)=>[(1,.int .i64 (left - (x1.length:Int) - (bulks (x1.take k):Int))),(5,.int .i64 (k:Int))]) (fun (k:Nat)=>[]) (fun (k:Nat)=>k≤x1.length∧0≤(left - (x1.length:Int) - (bulks (x1.take k):Int))) (fun (k:Nat)=>x1.length - k) [(0,_)] [] ?_ sb ms ?_
    · exact ⟨Nat.zero_le _,by simp [bulks];omega⟩
    · rintro k ⟨hk,ht⟩
      refine kq [0,1,5] ?_
      refine s5 ?_
      refine L_lenS rfl rfl el22.h ?_
      refine s2 ?_
      refine kp [0,1,5,15] ?_
      refine W_cond rfl (fun q5=>?_) (fun q5=>?_)
      · have hk1:k < x1.length:=by simpa using q5
        obtain ⟨g1,o1,rfl⟩:=rd_addr h1 hk1
        obtain ⟨u1,hu1⟩:=getEl hk1
        have hbs:=bulks_take_succ hu1
        have hble:=bulks_take_le x1 (k+1)
        refine s7 ?_
        refine L_indexAddr rfl rfl rfl el22.h rfl (by omega) ?_
        refine L_loadW rfl rfl (by first | exact RdC.blk mm | exact RdC.old (Cells.el h1 rfl hu1)) (by exact agg102.h) ?_
        refine s1 ?_
        refine L_callX rfl fn60.h rfl (by exact fun w hw=>szInst_spec w _ _ (by omega) (by omega) (rd_carry (h1.2.2.1 _ (List.mem_of_getElem? hu1)) hw) (ho.2 _ (List.mem_map.2 ⟨u1,List.mem_of_getElem? hu1,rfl⟩))) ?_
        refine s7 ?_
        refine kp [0,1,5,25] ?_
        refine W_cond rfl (fun q8=>?_) (fun q8=>?_)
        · have hb1:¬ ((Bk.bulk u1:Int)≤(left - (x1.length:Int) - (bulks (x1.take k):Int))):=by
            intro hn
            rw [if_pos hn] at q8;simp at q8;omega
          refine s5 ?_
          refine res1 rfl (ResOK.tmp rfl) ⟨?_,rfl⟩ ms
          first
            | (rw [if_neg (by simp only [Int.natCast_add];omega)];done)
            | (rw [if_neg (by have:=bulks_take_le x1 (k+1);simp only [Int.natCast_add];omega)];done)
            | (have hk2:x1.length≤k:=by simpa using q5
               rw [List.take_of_length_le hk2] at ht ⊢
               rw [if_pos (by simp only [Int.natCast_add];omega)];congr 1;simp only [Int.natCast_add];omega)
        · have hb1:(Bk.bulk u1:Int)≤(left - (x1.length:Int) - (bulks (x1.take k):Int)):=by
            rcases Int.decLt (left - (x1.length:Int) - (bulks (x1.take k):Int)) (Bk.bulk u1:Int) with hn | hn
            · omega
            · rw [if_neg (by omega)] at q8;simp at q8
          rw [if_pos hb1]
          have hnx:(left - (x1.length:Int) - (bulks (x1.take k):Int)) - (Bk.bulk u1:Int)=left - (x1.length:Int) - (bulks (x1.take (k+1)):Int):=by rw [hbs];omega
          rw [hnx]
          refine s3 ?_
          refine L_binV rfl rfl rfl (bv_addR (by unfold inR;omega)) ?_
          refine s2 ?_
          refine ⟨k+1,sb,ms,?_,?_⟩
          · exact ⟨by omega,by omega⟩
          · (try dsimp only);omega
      · refine W_exit ?_
        refine s6 ?_
        refine res1 rfl (ResOK.tmp rfl) ⟨?_,rfl⟩ ms
        first
          | (rw [if_neg (by simp only [Int.natCast_add];omega)];done)
          | (rw [if_neg (by have:=bulks_take_le x1 (k+1);simp only [Int.natCast_add];omega)];done)
          | (have hk2:x1.length≤k:=by simpa using q5
             rw [List.take_of_length_le hk2] at ht ⊢
             rw [if_pos (by simp only [Int.natCast_add];omega)];congr 1;simp only [Int.natCast_add];omega)
theorem toInstS_spec (w:World) (t1:TL T_Inst) (h1:GT.rd w [] t1) (hb:Bk.bulk t1≤1048576):Spec Tryz.prog 30 [t1.hdr].toArray w [] (fun v M=>∃ t2:TL T_Inst,v=t2.hdr∧GT.dat t2=GT.dat t1∧M=[treeH t2]):=by
 obtain ⟨a1,c1,e1,x1,y1⟩:=t1
 rw [bulk_TL] at hb
 dsimp only [TL.hdr]
 refine Spec.intro Tryz.func30 rfl Tryz.ntmps30 rfl ?_
 refine s7 ?_
 refine L_lenS rfl rfl el22.h ?_
 refine L_make (τ:=T_Inst) (((0:Int),(0:Int)),(0:Int),(0:Int),(0:Int),((0:Int),(0:Int),(0:Int),ByteArray.empty,ByteArray.empty,ByteArray.empty,(0:Int),(TL.nil ByteArray 0)),(0:Int),(TL.nil T_Id 0),false) rfl rfl rfl el29.h rfl rfl (flat_pair (flat_pair (flat_int trivial) (flat_int trivial)) (flat_pair (flat_int trivial) (flat_pair (flat_int trivial) (flat_pair (flat_int trivial) (flat_pair (flat_pair (flat_int trivial) (flat_pair (flat_int trivial) (flat_pair (flat_int trivial) (flat_pair (flat_str trivial) (flat_pair (flat_str trivial) (flat_pair (flat_str trivial) (flat_pair (flat_int trivial) (flat_nil 0)))))))) (flat_pair (flat_int trivial) (flat_pair (flat_nil 0) (flat_bool _)))))))) (by omega) (by unfold maxLen;omega) (fun g=>?_)
 refine s8 ?_
 refine W_loopC (σ:=Nat×List T_Inst) (0,List.replicate x1.length (((0:Int),(0:Int)),(0:Int),(0:Int),(0:Int),((0:Int),(0:Int),(0:Int),ByteArray.empty,ByteArray.empty,ByteArray.empty,(0:Int),(TL.nil ByteArray 0)),(0:Int),(TL.nil T_Id 0),false)) (fun (p:Nat×List T_Inst)=>[(4,.int .i64 (p.1:Int))]) (fun (p:Nat×List T_Inst)=>[treeH (⟨some ⟨g,0,none⟩,x1.length,111,p.2,[]⟩:TL T_Inst)]) (fun (p:Nat×List T_Inst)=>p.1≤x1.length∧p.2.length=x1.length∧(p.2.take p.1).map GT.dat=(x1.take p.1).map GT.dat) (fun (p:Nat×List T_Inst)=>x1.length - p.1) [(0,_),(3,_)] [] ?_ sb ms ?_
 ·exact ⟨Nat.zero_le _,by simp,by simp⟩
 ·rintro ⟨k,cur⟩ ⟨hk,hlen,hdat⟩
  dsimp only at hk hlen hdat
  refine kq [0,3,4] ?_
  refine s5 ?_
  refine L_lenS rfl rfl el22.h ?_
  refine s2 ?_
  refine kp [0,3,4,11] ?_
  refine W_cond rfl (fun q3=>?_) (fun q3=>?_)
  ·have hk1:k < x1.length:=by simpa using q3
   obtain ⟨g1,o1,rfl⟩:=rd_addr h1 hk1
   obtain ⟨u1,hu1⟩:=getEl hk1
   have hub:Bk.bulk u1≤1048576:=by have:=bulk_mem (List.mem_of_getElem? hu1);omega
   refine s8 ?_
   refine L_indexAddr rfl rfl rfl el22.h rfl (by omega) ?_
   refine L_loadW rfl rfl (by first | exact RdC.blk mm | exact RdC.old (Cells.el h1 rfl hu1)) (by exact agg102.h) ?_
   refine L_callR rfl fn69.h rfl (by exact fun w hw=>toInst_spec w _ (rd_carry (h1.2.2.1 _ (List.mem_of_getElem? hu1)) hw) hub) ?_
   rintro v M1 ⟨u2,hv,hd,rfl⟩
   subst hv
   simp only [List.cons_append,List.nil_append]
   refine L_indexAddr rfl rfl rfl el29.h rfl (by omega) ?_
   obtain ⟨u0,hu0⟩:=getEl (show k < cur.length by omega)
   refine L_storeEl u2 rfl rfl pk rfl hu0 rfl pk (.inl agg111.h) ?_
   refine s3 ?_
   refine L_binV rfl rfl rfl (bv_addR (by unfold inR;omega)) ?_
   refine s2 ?_
   refine ⟨(k+1,cur.set k u2),sb,ms,?_,?_⟩
   ·exact ⟨by dsimp only;omega,by simpa using hlen,map_take_set GT.dat GT.dat hdat (by omega) hu1 hd⟩
   ·dsimp only;omega
  ·refine W_exit ?_
   refine s6 ?_
   refine res1 rfl (ResOK.tmp rfl) ⟨⟨some ⟨g,0,none⟩,x1.length,111,cur,[]⟩,?_,?_,rfl⟩ ms
   ·show _=Value.slice _ cur.length _
    rw [hlen]
   ·have hk2:x1.length≤k:=by simpa using q3
    rw [List.take_of_length_le (by omega),List.take_of_length_le (by omega)] at hdat
    exact hdat
end Go.Proofs.SL
