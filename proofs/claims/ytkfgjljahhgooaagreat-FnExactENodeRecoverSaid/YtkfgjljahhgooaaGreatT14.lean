/- The texts of the proof, part 14: the base, walks of functions, plain Lean. -/
import Derived.Test.YtkfgjljahhgooaaGreatRows
import Derived.Test.YtkfgjljahhgooaaGreatT13
import Derived.Test.YtkfgjljahhgooaaGreatT5
namespace Go.Proofs.SL
open Go
set_option maxHeartbeats 2000000
instance fn79:FnF Tryz.prog 79:=⟨_,Tryz.func79,by kernel_rfl,rfl⟩
instance fld57_0:FldF Tryz.prog 57 0 0:=⟨by kernel_rfl⟩
instance fld57_1:FldF Tryz.prog 57 1 1:=⟨by kernel_rfl⟩
instance fn144:FnF Tryz.prog 144:=⟨_,Tryz.func144,by kernel_rfl,rfl⟩
instance el140:ElF Tryz.prog 140 57 2 16 [.int .i64 0,.int .i64 0]:=⟨by kernel_rfl⟩
instance agg57:AggF Tryz.prog 57 2:=⟨by kernel_rfl⟩
instance fn22:FnF Tryz.prog 22:=⟨_,Tryz.func22,by kernel_rfl,rfl⟩
instance fn93:FnF Tryz.prog 93:=⟨_,Tryz.func93,by kernel_rfl,rfl⟩
instance fld65_3:FldF Tryz.prog 65 3 3:=⟨by kernel_rfl⟩
instance fld65_4:FldF Tryz.prog 65 4 4:=⟨by kernel_rfl⟩
instance fld65_5:FldF Tryz.prog 65 5 5:=⟨by kernel_rfl⟩
instance fld65_7:FldF Tryz.prog 65 7 7:=⟨by kernel_rfl⟩
instance fn85:FnF Tryz.prog 85:=⟨_,Tryz.func85,by kernel_rfl,rfl⟩
instance fld65_0:FldF Tryz.prog 65 0 0:=⟨by kernel_rfl⟩
instance fld65_1:FldF Tryz.prog 65 1 1:=⟨by kernel_rfl⟩
instance fld65_2:FldF Tryz.prog 65 2 2:=⟨by kernel_rfl⟩
instance fld65_6:FldF Tryz.prog 65 6 6:=⟨by kernel_rfl⟩
instance fn89:FnF Tryz.prog 89:=⟨_,Tryz.func89,by kernel_rfl,rfl⟩
instance fn78:FnF Tryz.prog 78:=⟨_,Tryz.func78,by kernel_rfl,rfl⟩
theorem eqId_spec (w:World) (t1 t2:T_Id) (h1:GT.rd w [] t1) (h2:GT.rd w [] t2):Spec Tryz.prog 144 [.agg (GT.cells t1).toArray,.agg (GT.cells t2).toArray].toArray w [] (IsV (.bool (eqB (GT.dat t1) (GT.dat t2)))):=by
 obtain ⟨a1,a2⟩:=t1
 obtain ⟨b1,b2⟩:=t2
 change Spec _ _ [Value.agg #[.int .i64 a1,.int .i64 a2],Value.agg #[.int .i64 b1,.int .i64 b2]].toArray w [] _
 refine Spec.intro Tryz.func144 rfl Tryz.ntmps144 rfl ?_
 refine s2 ?_
 refine bx fun bk2=>?_
 refine bx fun bk3=>?_
 refine s6 ?_
 refine L_load rfl rfl (by first | exact RdC.blk mm) one3.h rfl ?_
 refine s1 ?_
 refine L_load rfl rfl (by first | exact RdC.blk mm) one3.h rfl ?_
 refine s2 ?_
 refine kp [2,3,9] ?_
 refine W_cond rfl (fun q1=>?_) (fun q1=>?_)
 ·refine s5 ?_
  refine res1 rfl (ResOK.tmp rfl) ⟨?_,rfl⟩ ms
  clear h1 h2
  exact eqy
 ·refine s5 ?_
  refine L_load rfl rfl (by first | exact RdC.blk mm) one3.h rfl ?_
  refine s1 ?_
  refine L_load rfl rfl (by first | exact RdC.blk mm) one3.h rfl ?_
  refine s2 ?_
  refine kp [14] ?_
  refine W_cond rfl (fun q3=>?_) (fun q3=>?_)
  ·refine s5 ?_
   refine res1 rfl (ResOK.tmp rfl) ⟨?_,rfl⟩ ms
   clear h1 h2
   exact eqy
  ·refine s6 ?_
   refine res1 rfl (ResOK.tmp rfl) ⟨?_,rfl⟩ ms
   clear h1 h2
   exact eqy
theorem toId_spec (w:World) (t1:T_Id) (h1:GT.rd w [] t1) (hb:Bk.bulk t1≤1048576):Spec Tryz.prog 22 [.agg (GT.cells t1).toArray].toArray w [] (fun v M=>∃ t2:T_Id,v=.agg (GT.cells t2).toArray∧GT.dat t2=GT.dat t1∧M=[treeH t2]):=by
 obtain ⟨a1,a2⟩:=t1
 change Spec _ _ [Value.agg #[.int .i64 a1,.int .i64 a2]].toArray w [] _
 refine Spec.intro Tryz.func22 rfl Tryz.ntmps22 rfl ?_
 refine s2 ?_
 refine bx fun bk1=>?_
 refine al fun bk2=>?_
 refine s3 ?_
 refine al fun bk3=>?_
 refine s4 ?_
 refine L_load rfl rfl (by first | exact RdC.blk mm) one3.h rfl ?_
 refine s6 ?_
 refine L_load rfl rfl (by first | exact RdC.blk mm) one3.h rfl ?_
 refine s5 ?_
 refine L_loadW rfl rfl (by first | exact RdC.blk mm) (by exact agg29.h) ?_
 refine L_storeW rfl rfl pk (by exact agg29.h) (by rfl) (by first | (simp [Value.oneCell',TL.hdr];done) | (simp [Value.oneCell',TL.hdr,Value.cells];done) | exact fun v hv=>GT.one _ v hv) ?_
 refine s1 ?_
 refine W_conv (M':=treeH ((a1,a2):T_Id)::_) (fun w h=>(tree_snd (flat_int (h1.1)) (h.addFlat (flat_int (h1.2))))) ?_
 refine s1 ?_
 refine res1 rfl (ResOK.cell rfl mm (by exact agg29.h)) ⟨(a1,a2),rfl,by simp only [dat_pair],rfl⟩ ms
theorem eqIdS_spec (w:World) (t1 t2:TL T_Id) (h1:GT.rd w [] t1) (h2:GT.rd w [] t2):Spec Tryz.prog 145 [t1.hdr,t2.hdr].toArray w [] (IsV (.bool (eqB (GT.dat t1) (GT.dat t2)))):=by
 obtain ⟨a1,c1,e1,x1,y1⟩:=t1
 obtain ⟨a2,c2,e2,x2,y2⟩:=t2
 have hm1:x1.length≤9223372036854775807:=rd_len h1
 have hm2:x2.length≤9223372036854775807:=rd_len h2
 dsimp only [TL.hdr]
 refine Spec.intro Tryz.func145 rfl Tryz.ntmps145 rfl ?_
 refine s8 ?_
 refine L_lenS rfl rfl el33.h ?_
 refine s1 ?_
 refine L_lenS rfl rfl el33.h ?_
 refine s2 ?_
 refine kp [0,1,10] ?_
 refine W_cond rfl (fun q1=>?_) (fun q1=>?_)
 ·refine s5 ?_
  refine res1 rfl (ResOK.tmp rfl) ⟨?_,rfl⟩ ms
  refine congrArg Value.bool (Eq.symm (eqB_false.2 fun e=>?_))
  simp at q1
  exact q1 (by have:=congrArg List.length e;simp [dat_TL] at this;omega)
 ·have hl:x1.length=x2.length:=by simp at q1;omega
  refine s7 ?_
  refine W_loopC (σ:=Nat) 0 (fun (k:Nat)=>[(5,.int .i64 (k:Int))]) (fun (k:Nat)=>[]) (fun (k:Nat)=>k≤x1.length∧(x1.map GT.dat).take k=(x2.map GT.dat).take k) (fun (k:Nat)=>x1.length - k) [(0,_),(1,_)] [] ?_ sb ms ?_
  ·exact ⟨Nat.zero_le _,rfl⟩
  ·rintro k ⟨hk,ht⟩
   refine kq [0,1,5] ?_
   refine s5 ?_
   refine L_lenS rfl rfl el33.h ?_
   refine s2 ?_
   refine kp [0,1,5,14] ?_
   refine W_cond rfl (fun q4=>?_) (fun q4=>?_)
   ·have hk1:k < x1.length:=by simpa using q4
    obtain ⟨g1,o1,rfl⟩:=rd_addr h1 hk1
    obtain ⟨g2,o2,rfl⟩:=rd_addr (k:=k) h2 (show k < x2.length by omega)
    obtain ⟨u1,hu1⟩:=getEl hk1
    obtain ⟨u2,hu2⟩:=getEl (show k < x2.length by omega)
    refine s4 ?_
    refine W_D0 [26] mix (by kernel_rfl) rfl ?_
    refine s2 ?_
    refine D_indexAddr _ GC.none (OpV.t rfl) (OpV.t rfl) el33.h (fun hg=>⟨rfl,by (try dsimp only);omega⟩) ?_
    refine D_loadW GC.none (OpV.t rfl) (fun hg=>(by first | exact RdC.blk mm | exact RdC.old (Cells.el h1 rfl hu1) | exact RdC.old (Cells.el h2 rfl hu2))) (by exact agg29.h) ?_
    refine s2 ?_
    refine D_indexAddr _ GC.none (OpV.t rfl) (OpV.t rfl) el33.h (fun hg=>⟨rfl,by (try dsimp only);omega⟩) ?_
    refine D_loadW GC.none (OpV.t rfl) (fun hg=>(by first | exact RdC.blk mm | exact RdC.old (Cells.el h1 rfl hu1) | exact RdC.old (Cells.el h2 rfl hu2))) (by exact agg29.h) ?_
    refine D_callX GC.none fn144.h (OpVs.cons (OpV.t rfl) (OpVs.cons (OpV.t rfl) (OpVs.nil))) (by exact fun hg w F hF hM=>(fun w hw=>eqId_spec w _ _ (rd_carry (h1.2.2.1 _ (List.mem_of_getElem? hu1)) hw) (rd_carry (h2.2.2.1 _ (List.mem_of_getElem? hu2)) hw)) w hF) ?_
    refine s13 ?_
    refine kp [0,1,5,26] ?_
    refine W_cond rfl (fun q6=>?_) (fun q6=>?_)
    ·refine s5 ?_
     refine res1 rfl (ResOK.tmp rfl) ⟨?_,rfl⟩ ms
     refine congrArg Value.bool (Eq.symm (eqB_false.2 fun e=>?_))
     simp at q6
     replace e:x1.map GT.dat=x2.map GT.dat:=e
     have e2:=congrArg (fun l=>l[k]?) e
     simp only [List.getElem?_map,hu1,hu2,Option.map_some,Option.some.injEq] at e2
     exact q6 (by simpa [dat_int,dat_str,dat_bool] using e2)
    ·refine s3 ?_
     refine L_binV rfl rfl rfl (bv_addR (by unfold inR;omega)) ?_
     refine s2 ?_
     refine ⟨k+1,sb,ms,?_,?_⟩
     ·exact ⟨by omega,take_succ_eq ht (by rw [List.getElem?_map,hu1];rfl) (by rw [List.getElem?_map,hu2];rfl) (by simpa [dat_int,dat_str,dat_bool] using q6)⟩
     ·(try dsimp only);omega
   ·refine W_exit ?_
    refine s5 ?_
    refine res1 rfl (ResOK.tmp rfl) ⟨?_,rfl⟩ ms
    refine congrArg Value.bool (Eq.symm (eqB_true.2 ?_))
    have hk2:x1.length≤k:=by simpa using q4
    have h3:=ht
    rw [List.take_of_length_le (by simp;omega),List.take_of_length_le (by simp;omega)] at h3
    exact h3
theorem szIdS_spec (w:World) (t1:TL T_Id) (left:Int) (hl:0≤left) (hm:left≤1048576) (h1:GT.rd w [] t1) (ho:Ok.ok (GT.dat t1)):Spec Tryz.prog 179 [t1.hdr,.int .i64 left].toArray w [] (IsV (.int .i64 (if (Bk.bulk t1:Int)≤left then left - (Bk.bulk t1:Int) else -1))):=by
 obtain ⟨a1,c1,e1,x1,y1⟩:=t1
 have hm1:x1.length≤9223372036854775807:=rd_len h1
 rw [bulk_TL]
 dsimp only [TL.hdr]
 have hz:bulks x1=0:=by
  clear hm1 h1 ho
  induction x1 with
  | nil=>rfl
  | cons y ys ih=>simp only [bulks,ih];rfl
 refine Spec.intro Tryz.func179 rfl Tryz.ntmps179 rfl ?_
 refine s8 ?_
 refine L_lenS rfl rfl el140.h ?_
 refine L_binV rfl rfl rfl (bv_subR (by unfold inR;omega)) ?_
 refine s8 ?_
 refine kp [1,10] ?_
 refine W_cond rfl (fun q2=>?_) (fun q2=>?_)
 ·have hb0:left - (x1.length:Int) < 0:=by simpa using q2
  refine s5 ?_
  refine res1 rfl (ResOK.tmp rfl) ⟨?_,rfl⟩ ms
  simp only [hz,Nat.add_zero]
  first
   | (rw [if_pos (by omega)];done)
   | (rw [if_neg (by omega)])
 ·have hb0:¬ (left - (x1.length:Int) < 0):=by simpa using q2
  skip
  refine s7 ?_
  refine res1 rfl (ResOK.tmp rfl) ⟨?_,rfl⟩ ms
  simp only [hz,Nat.add_zero]
  first
   | (rw [if_pos (by omega)];done)
   | (rw [if_neg (by omega)])
theorem toIdS_spec (w:World) (t1:TL T_Id) (h1:GT.rd w [] t1) (hb:Bk.bulk t1≤1048576):Spec Tryz.prog 181 [t1.hdr].toArray w [] (fun v M=>∃ t2:TL T_Id,v=t2.hdr∧GT.dat t2=GT.dat t1∧M=[treeH t2]):=by
 obtain ⟨a1,c1,e1,x1,y1⟩:=t1
 rw [bulk_TL] at hb
 dsimp only [TL.hdr]
 refine Spec.intro Tryz.func181 rfl Tryz.ntmps181 rfl ?_
 refine s7 ?_
 refine L_lenS rfl rfl el140.h ?_
 refine L_make (τ:=T_Id) ((0:Int),(0:Int)) rfl rfl rfl el33.h rfl rfl (flat_pair (flat_int trivial) (flat_int trivial)) (by omega) (by unfold maxLen;omega) (fun g=>?_)
 refine s8 ?_
 refine W_loopC (σ:=Nat×List T_Id) (0,List.replicate x1.length ((0:Int),(0:Int))) (fun (p:Nat×List T_Id)=>[(4,.int .i64 (p.1:Int))]) (fun (p:Nat×List T_Id)=>[treeH (⟨some ⟨g,0,none⟩,x1.length,29,p.2,[]⟩:TL T_Id)]) (fun (p:Nat×List T_Id)=>p.1≤x1.length∧p.2.length=x1.length∧(p.2.take p.1).map GT.dat=(x1.take p.1).map GT.dat) (fun (p:Nat×List T_Id)=>x1.length - p.1) [(0,_),(3,_)] [] ?_ sb ms ?_
 ·exact ⟨Nat.zero_le _,by simp,by simp⟩
 ·rintro ⟨k,cur⟩ ⟨hk,hlen,hdat⟩
  dsimp only at hk hlen hdat
  refine kq [0,3,4] ?_
  refine s5 ?_
  refine L_lenS rfl rfl el140.h ?_
  refine s2 ?_
  refine kp [0,3,4,11] ?_
  refine W_cond rfl (fun q3=>?_) (fun q3=>?_)
  ·have hk1:k < x1.length:=by simpa using q3
   obtain ⟨g1,o1,rfl⟩:=rd_addr h1 hk1
   obtain ⟨u1,hu1⟩:=getEl hk1
   have hub:Bk.bulk u1≤1048576:=by have:=bulk_mem (List.mem_of_getElem? hu1);omega
   refine s8 ?_
   refine L_indexAddr rfl rfl rfl el140.h rfl (by omega) ?_
   refine L_loadW rfl rfl (by first | exact RdC.blk mm | exact RdC.old (Cells.el h1 rfl hu1)) (by exact agg57.h) ?_
   refine L_callR rfl fn22.h rfl (by exact fun w hw=>toId_spec w _ (rd_carry (h1.2.2.1 _ (List.mem_of_getElem? hu1)) hw) hub) ?_
   rintro v M1 ⟨u2,hv,hd,rfl⟩
   subst hv
   simp only [List.cons_append,List.nil_append]
   refine L_indexAddr rfl rfl rfl el33.h rfl (by omega) ?_
   obtain ⟨u0,hu0⟩:=getEl (show k < cur.length by omega)
   refine L_storeEl u2 rfl rfl pk rfl hu0 rfl pk (.inl agg29.h) ?_
   refine s3 ?_
   refine L_binV rfl rfl rfl (bv_addR (by unfold inR;omega)) ?_
   refine s2 ?_
   refine ⟨(k+1,cur.set k u2),sb,ms,?_,?_⟩
   ·exact ⟨by dsimp only;omega,by simpa using hlen,map_take_set GT.dat GT.dat hdat (by omega) hu1 hd⟩
   ·dsimp only;omega
  ·refine W_exit ?_
   refine s6 ?_
   refine res1 rfl (ResOK.tmp rfl) ⟨⟨some ⟨g,0,none⟩,x1.length,29,cur,[]⟩,?_,?_,rfl⟩ ms
   ·show _=Value.slice _ cur.length _
    rw [hlen]
   ·have hk2:x1.length≤k:=by simpa using q3
    rw [List.take_of_length_le (by omega),List.take_of_length_le (by omega)] at hdat
    exact hdat
theorem eqStringS_spec (w:World) (t1 t2:TL ByteArray) (h1:GT.rd w [] t1) (h2:GT.rd w [] t2):Spec Tryz.prog 93 [t1.hdr,t2.hdr].toArray w [] (IsV (.bool (eqB (GT.dat t1) (GT.dat t2)))):=by
 obtain ⟨a1,c1,e1,x1,y1⟩:=t1
 obtain ⟨a2,c2,e2,x2,y2⟩:=t2
 have hm1:x1.length≤9223372036854775807:=rd_len h1
 have hm2:x2.length≤9223372036854775807:=rd_len h2
 dsimp only [TL.hdr]
 refine Spec.intro Tryz.func93 rfl Tryz.ntmps93 rfl ?_
 refine s8 ?_
 refine L_lenS rfl rfl el30.h ?_
 refine s1 ?_
 refine L_lenS rfl rfl el30.h ?_
 refine s2 ?_
 refine kp [0,1,10] ?_
 refine W_cond rfl (fun q1=>?_) (fun q1=>?_)
 ·refine s5 ?_
  refine res1 rfl (ResOK.tmp rfl) ⟨?_,rfl⟩ ms
  refine congrArg Value.bool (Eq.symm (eqB_false.2 fun e=>?_))
  simp at q1
  exact q1 (by have:=congrArg List.length e;simp [dat_TL] at this;omega)
 ·have hl:x1.length=x2.length:=by simp at q1;omega
  refine s7 ?_
  refine W_loopC (σ:=Nat) 0 (fun (k:Nat)=>[(5,.int .i64 (k:Int))]) (fun (k:Nat)=>[]) (fun (k:Nat)=>k≤x1.length∧(x1.map GT.dat).take k=(x2.map GT.dat).take k) (fun (k:Nat)=>x1.length - k) [(0,_),(1,_)] [] ?_ sb ms ?_
  ·exact ⟨Nat.zero_le _,rfl⟩
  ·rintro k ⟨hk,ht⟩
   refine kq [0,1,5] ?_
   refine s5 ?_
   refine L_lenS rfl rfl el30.h ?_
   refine s2 ?_
   refine kp [0,1,5,14] ?_
   refine W_cond rfl (fun q4=>?_) (fun q4=>?_)
   ·have hk1:k < x1.length:=by simpa using q4
    obtain ⟨g1,o1,rfl⟩:=rd_addr h1 hk1
    obtain ⟨g2,o2,rfl⟩:=rd_addr (k:=k) h2 (show k < x2.length by omega)
    obtain ⟨u1,hu1⟩:=getEl hk1
    obtain ⟨u2,hu2⟩:=getEl (show k < x2.length by omega)
    refine s4 ?_
    refine W_D0 [25] mix (by kernel_rfl) rfl ?_
    refine s2 ?_
    refine D_indexAddr _ GC.none (OpV.t rfl) (OpV.t rfl) el30.h (fun hg=>⟨rfl,by (try dsimp only);omega⟩) ?_
    refine D_load0 GC.none (OpV.t rfl) (fun hg=>(by first | exact RdC.blk mm | exact RdC.old (Cells.el h1 rfl hu1) | exact RdC.old (Cells.el h2 rfl hu2))) one9.h rfl ?_
    refine s2 ?_
    refine D_indexAddr _ GC.none (OpV.t rfl) (OpV.t rfl) el30.h (fun hg=>⟨rfl,by (try dsimp only);omega⟩) ?_
    refine D_load0 GC.none (OpV.t rfl) (fun hg=>(by first | exact RdC.blk mm | exact RdC.old (Cells.el h1 rfl hu1) | exact RdC.old (Cells.el h2 rfl hu2))) one9.h rfl ?_
    refine s12 ?_
    refine kp [0,1,5,25] ?_
    refine W_cond rfl (fun q6=>?_) (fun q6=>?_)
    ·refine s5 ?_
     refine res1 rfl (ResOK.tmp rfl) ⟨?_,rfl⟩ ms
     refine congrArg Value.bool (Eq.symm (eqB_false.2 fun e=>?_))
     simp at q6
     replace e:x1.map GT.dat=x2.map GT.dat:=e
     have e2:=congrArg (fun l=>l[k]?) e
     simp only [List.getElem?_map,hu1,hu2,Option.map_some,Option.some.injEq] at e2
     exact q6 (by simpa [dat_int,dat_str,dat_bool] using e2)
    ·refine s3 ?_
     refine L_binV rfl rfl rfl (bv_addR (by unfold inR;omega)) ?_
     refine s2 ?_
     refine ⟨k+1,sb,ms,?_,?_⟩
     ·exact ⟨by omega,take_succ_eq ht (by rw [List.getElem?_map,hu1];rfl) (by rw [List.getElem?_map,hu2];rfl) (by simpa [dat_int,dat_str,dat_bool] using q6)⟩
     ·(try dsimp only);omega
   ·refine W_exit ?_
    refine s5 ?_
    refine res1 rfl (ResOK.tmp rfl) ⟨?_,rfl⟩ ms
    refine congrArg Value.bool (Eq.symm (eqB_true.2 ?_))
    have hk2:x1.length≤k:=by simpa using q4
    have h3:=ht
    rw [List.take_of_length_le (by simp;omega),List.take_of_length_le (by simp;omega)] at h3
    exact h3
theorem szStringS_spec (w:World) (t1:TL ByteArray) (left:Int) (hl:0≤left) (hm:left≤1048576) (h1:GT.rd w [] t1) (ho:Ok.ok (GT.dat t1)):Spec Tryz.prog 85 [t1.hdr,.int .i64 left].toArray w [] (IsV (.int .i64 (if (Bk.bulk t1:Int)≤left then left - (Bk.bulk t1:Int) else -1))):=by
  obtain ⟨a1,c1,e1,x1,y1⟩:=t1
  have hm1:x1.length≤9223372036854775807:=rd_len h1
  rw [bulk_TL]
  dsimp only [TL.hdr]
  refine Spec.intro Tryz.func85 rfl Tryz.ntmps85 rfl ?_
  refine s8 ?_
  refine L_lenS rfl rfl el30.h ?_
  refine L_binV rfl rfl rfl (bv_subR (by unfold inR;omega)) ?_
  refine s8 ?_
  refine kp [0,1,11] ?_
  refine W_cond rfl (fun q2=>?_) (fun q2=>?_)
  · have hb0:left - (x1.length:Int) < 0:=by simpa using q2
    refine s5 ?_
    refine res1 rfl (ResOK.tmp rfl) ⟨?_,rfl⟩ ms
    first
      | (rw [if_neg (by simp only [Int.natCast_add];omega)];done)
      | (rw [if_neg (by have:=bulks_take_le x1 (k+1);simp only [Int.natCast_add];omega)];done)
      | (have hk2:x1.length≤k:=by simpa using q5
         rw [List.take_of_length_le hk2] at ht ⊢
         rw [if_pos (by simp only [Int.natCast_add];omega)];congr 1;simp only [Int.natCast_add];omega)
  · have hb0:¬ (left - (x1.length:Int) < 0):=by simpa using q2
    refine s7 ?_
    have h0:left - (x1.length:Int)=left - (x1.length:Int) - (bulks (x1.take 0):Int):=by simp [bulks]
    rw [h0]
    refine W_loopC (σ:=Nat) 0 (fun (k:Nat)=>[(1,.int .i64 (left - (x1.length:Int) - (bulks (x1.take k):Int))),(5,.int .i64 (k:Int))]) (fun (k:Nat)=>[]) (fun (k:Nat)=>k≤x1.length∧0≤(left - (x1.length:Int) - (bulks (x1.take k):Int))) (fun (k:Nat)=>x1.length - k) [(0,_)] [] ?_ sb ms ?_
    · exact ⟨Nat.zero_le _,by simp [bulks];omega⟩
    · rintro k ⟨hk,ht⟩
      refine kq [0,1,5] ?_
      refine s5 ?_
      refine L_lenS rfl rfl el30.h ?_
      refine s2 ?_
      refine kp [0,1,5,15] ?_
      refine W_cond rfl (fun q5=>?_) (fun q5=>?_)
      · have hk1:k < x1.length:=by simpa using q5
        obtain ⟨g1,o1,rfl⟩:=rd_addr h1 hk1
        obtain ⟨u1,hu1⟩:=getEl hk1
        have hbs:=bulks_take_succ hu1
        have hble:=bulks_take_le x1 (k+1)
        have hus:u1.size≤9223372036854775807:=ho.2 _ (List.mem_map.2 ⟨u1,List.mem_of_getElem? hu1,rfl⟩)
        rw [bulk_str] at hbs
        refine s8 ?_
        refine L_indexAddr rfl rfl rfl el30.h rfl (by omega) ?_
        refine L_load0 rfl rfl (by first | exact RdC.blk mm | exact RdC.old (Cells.el h1 rfl hu1)) one9.h rfl ?_
        refine s1 ?_
        refine L_binV rfl rfl rfl (bv_subR (by unfold inR;omega)) ?_
        refine s7 ?_
        refine kp [0,1,5,26] ?_
        refine W_cond rfl (fun q8=>?_) (fun q8=>?_)
        · have hb1:(left - (x1.length:Int) - (bulks (x1.take k):Int)) - (u1.size:Int) < 0:=by simpa using q8
          refine s5 ?_
          refine res1 rfl (ResOK.tmp rfl) ⟨?_,rfl⟩ ms
          first
            | (rw [if_neg (by simp only [Int.natCast_add];omega)];done)
            | (rw [if_neg (by have:=bulks_take_le x1 (k+1);simp only [Int.natCast_add];omega)];done)
            | (have hk2:x1.length≤k:=by simpa using q5
               rw [List.take_of_length_le hk2] at ht ⊢
               rw [if_pos (by simp only [Int.natCast_add];omega)];congr 1;simp only [Int.natCast_add];omega)
        · have hb1:¬ ((left - (x1.length:Int) - (bulks (x1.take k):Int)) - (u1.size:Int) < 0):=by simpa using q8
          have hnx:(left - (x1.length:Int) - (bulks (x1.take k):Int)) - (u1.size:Int)=left - (x1.length:Int) - (bulks (x1.take (k+1)):Int):=by rw [hbs];omega
          rw [hnx]
          refine s3 ?_
          refine L_binV rfl rfl rfl (bv_addR (by unfold inR;omega)) ?_
          refine s2 ?_
          refine ⟨k+1,sb,ms,?_,?_⟩
          · exact ⟨by omega,by omega⟩
          · (try dsimp only);omega
      · refine W_exit ?_
        refine s6 ?_
        refine res1 rfl (ResOK.tmp rfl) ⟨?_,rfl⟩ ms
        first
          | (rw [if_neg (by simp only [Int.natCast_add];omega)];done)
          | (rw [if_neg (by have:=bulks_take_le x1 (k+1);simp only [Int.natCast_add];omega)];done)
          | (have hk2:x1.length≤k:=by simpa using q5
             rw [List.take_of_length_le hk2] at ht ⊢
             rw [if_pos (by simp only [Int.natCast_add];omega)];congr 1;simp only [Int.natCast_add];omega)
theorem toStringS_spec (w:World) (t1:TL ByteArray) (h1:GT.rd w [] t1) (hb:Bk.bulk t1≤1048576):Spec Tryz.prog 89 [t1.hdr].toArray w [] (fun v M=>∃ t2:TL ByteArray,v=t2.hdr∧GT.dat t2=GT.dat t1∧M=[treeH t2]):=by
 obtain ⟨a1,c1,e1,x1,y1⟩:=t1
 rw [bulk_TL] at hb
 dsimp only [TL.hdr]
 refine Spec.intro Tryz.func89 rfl Tryz.ntmps89 rfl ?_
 refine s7 ?_
 refine L_lenS rfl rfl el30.h ?_
 refine L_make (τ:=ByteArray) ByteArray.empty rfl rfl rfl el30.h rfl rfl (flat_str trivial) (by omega) (by unfold maxLen;omega) (fun g=>?_)
 refine s8 ?_
 refine W_loopC (σ:=Nat×List ByteArray) (0,List.replicate x1.length ByteArray.empty) (fun (p:Nat×List ByteArray)=>[(4,.int .i64 (p.1:Int))]) (fun (p:Nat×List ByteArray)=>[treeH (⟨some ⟨g,0,none⟩,x1.length,9,p.2,[]⟩:TL ByteArray)]) (fun (p:Nat×List ByteArray)=>p.1≤x1.length∧p.2.length=x1.length∧(p.2.take p.1).map GT.dat=(x1.take p.1).map GT.dat) (fun (p:Nat×List ByteArray)=>x1.length - p.1) [(0,_),(3,_)] [] ?_ sb ms ?_
 ·exact ⟨Nat.zero_le _,by simp,by simp⟩
 ·rintro ⟨k,cur⟩ ⟨hk,hlen,hdat⟩
  dsimp only at hk hlen hdat
  refine kq [0,3,4] ?_
  refine s5 ?_
  refine L_lenS rfl rfl el30.h ?_
  refine s2 ?_
  refine kp [0,3,4,11] ?_
  refine W_cond rfl (fun q3=>?_) (fun q3=>?_)
  ·have hk1:k < x1.length:=by simpa using q3
   obtain ⟨g1,o1,rfl⟩:=rd_addr h1 hk1
   obtain ⟨u1,hu1⟩:=getEl hk1
   have hub:Bk.bulk u1≤1048576:=by have:=bulk_mem (List.mem_of_getElem? hu1);omega
   refine s8 ?_
   refine L_indexAddr rfl rfl rfl el30.h rfl (by omega) ?_
   refine L_load0 rfl rfl (by first | exact RdC.blk mm | exact RdC.old (Cells.el h1 rfl hu1)) one9.h rfl ?_
   refine L_indexAddr rfl rfl rfl el30.h rfl (by omega) ?_
   obtain ⟨u0,hu0⟩:=getEl (show k < cur.length by omega)
   refine L_storeElV u1 rfl rfl pk rfl hu0 rfl (flat_str (h1.2.2.1 _ (List.mem_of_getElem? hu1))) (.inr ⟨one9.h,rfl⟩) ?_
   refine s3 ?_
   refine L_binV rfl rfl rfl (bv_addR (by unfold inR;omega)) ?_
   refine s2 ?_
   refine ⟨(k+1,cur.set k u1),sb,ms,?_,?_⟩
   ·exact ⟨by dsimp only;omega,by simpa using hlen,map_take_set GT.dat GT.dat hdat (by omega) hu1 rfl⟩
   ·dsimp only;omega
  ·refine W_exit ?_
   refine s6 ?_
   refine res1 rfl (ResOK.tmp rfl) ⟨⟨some ⟨g,0,none⟩,x1.length,9,cur,[]⟩,?_,?_,rfl⟩ ms
   ·show _=Value.slice _ cur.length _
    rw [hlen]
   ·have hk2:x1.length≤k:=by simpa using q3
    rw [List.take_of_length_le (by omega),List.take_of_length_le (by omega)] at hdat
    exact hdat
theorem eqCmd_spec (w:World) (t1 t2:T_Cmd) (h1:GT.rd w [] t1) (h2:GT.rd w [] t2):Spec Tryz.prog 33 [.agg (GT.cells t1).toArray,.agg (GT.cells t2).toArray].toArray w [] (IsV (.bool (eqB (GT.dat t1) (GT.dat t2)))):=by
 obtain ⟨a1,a2,a3,a4,a5,a6,a7,a8⟩:=t1
 obtain ⟨b1,b2,b3,b4,b5,b6,b7,b8⟩:=t2
 change Spec _ _ [Value.agg #[.int .i64 a1,.int .i64 a2,.int .i64 a3,.string a4,.string a5,.string a6,.int .i64 a7,a8.hdr],Value.agg #[.int .i64 b1,.int .i64 b2,.int .i64 b3,.string b4,.string b5,.string b6,.int .i64 b7,b8.hdr]].toArray w [] _
 refine Spec.intro Tryz.func33 rfl Tryz.ntmps33 rfl ?_
 refine s2 ?_
 refine bx fun bk2=>?_
 refine bx fun bk3=>?_
 refine s6 ?_
 refine L_load rfl rfl (by first | exact RdC.blk mm) one3.h rfl ?_
 refine s1 ?_
 refine L_load rfl rfl (by first | exact RdC.blk mm) one3.h rfl ?_
 refine s2 ?_
 refine kp [2,3,9] ?_
 refine W_cond rfl (fun q1=>?_) (fun q1=>?_)
 ·refine s5 ?_
  refine res1 rfl (ResOK.tmp rfl) ⟨?_,rfl⟩ ms
  clear h1 h2
  exact eqy
 ·refine s5 ?_
  refine L_load rfl rfl (by first | exact RdC.blk mm) one3.h rfl ?_
  refine s1 ?_
  refine L_load rfl rfl (by first | exact RdC.blk mm) one3.h rfl ?_
  refine s2 ?_
  refine kp [2,3,14] ?_
  refine W_cond rfl (fun q3=>?_) (fun q3=>?_)
  ·refine s5 ?_
   refine res1 rfl (ResOK.tmp rfl) ⟨?_,rfl⟩ ms
   clear h1 h2
   exact eqy
  ·refine s5 ?_
   refine L_load rfl rfl (by first | exact RdC.blk mm) one3.h rfl ?_
   refine s1 ?_
   refine L_load rfl rfl (by first | exact RdC.blk mm) one3.h rfl ?_
   refine s2 ?_
   refine kp [2,3,19] ?_
   refine W_cond rfl (fun q5=>?_) (fun q5=>?_)
   ·refine s5 ?_
    refine res1 rfl (ResOK.tmp rfl) ⟨?_,rfl⟩ ms
    clear h1 h2
    exact eqy
   ·refine s5 ?_
    refine L_load rfl rfl (by first | exact RdC.blk mm) one9.h rfl ?_
    refine s1 ?_
    refine L_load rfl rfl (by first | exact RdC.blk mm) one9.h rfl ?_
    refine s2 ?_
    refine kp [2,3,24] ?_
    refine W_cond rfl (fun q7=>?_) (fun q7=>?_)
    ·refine s5 ?_
     refine res1 rfl (ResOK.tmp rfl) ⟨?_,rfl⟩ ms
     clear h1 h2
     exact eqy
    ·refine s5 ?_
     refine L_load rfl rfl (by first | exact RdC.blk mm) one9.h rfl ?_
     refine s1 ?_
     refine L_load rfl rfl (by first | exact RdC.blk mm) one9.h rfl ?_
     refine s2 ?_
     refine kp [2,3,29] ?_
     refine W_cond rfl (fun q9=>?_) (fun q9=>?_)
     ·refine s5 ?_
      refine res1 rfl (ResOK.tmp rfl) ⟨?_,rfl⟩ ms
      clear h1 h2
      exact eqy
     ·refine s5 ?_
      refine L_load rfl rfl (by first | exact RdC.blk mm) one9.h rfl ?_
      refine s1 ?_
      refine L_load rfl rfl (by first | exact RdC.blk mm) one9.h rfl ?_
      refine s2 ?_
      refine kp [2,3,34] ?_
      refine W_cond rfl (fun q11=>?_) (fun q11=>?_)
      ·refine s5 ?_
       refine res1 rfl (ResOK.tmp rfl) ⟨?_,rfl⟩ ms
       clear h1 h2
       exact eqy
      ·refine s5 ?_
       refine L_load rfl rfl (by first | exact RdC.blk mm) one3.h rfl ?_
       refine s1 ?_
       refine L_load rfl rfl (by first | exact RdC.blk mm) one3.h rfl ?_
       refine s2 ?_
       refine kp [2,3,39] ?_
       refine W_cond rfl (fun q13=>?_) (fun q13=>?_)
       ·refine s5 ?_
        refine res1 rfl (ResOK.tmp rfl) ⟨?_,rfl⟩ ms
        clear h1 h2
        exact eqy
       ·refine s5 ?_
        refine L_load rfl rfl (by first | exact RdC.blk mm) one30.h rfl ?_
        refine s1 ?_
        refine L_load rfl rfl (by first | exact RdC.blk mm) one30.h rfl ?_
        refine L_callX rfl fn93.h rfl (by exact fun w hw=>eqStringS_spec w _ _ (rd_carry (h1.2.2.2.2.2.2.2) hw) (rd_carry (h2.2.2.2.2.2.2.2) hw)) ?_
        refine s2 ?_
        refine kp [45] ?_
        refine W_cond rfl (fun q15=>?_) (fun q15=>?_)
        ·refine s5 ?_
         refine res1 rfl (ResOK.tmp rfl) ⟨?_,rfl⟩ ms
         clear h1 h2
         exact eqy
        ·refine s6 ?_
         refine res1 rfl (ResOK.tmp rfl) ⟨?_,rfl⟩ ms
         clear h1 h2
         exact eqy
theorem szCmd_spec (w:World) (t1:T_Cmd) (left:Int) (hl:0≤left) (hm:left≤1048576) (h1:GT.rd w [] t1) (ho:Ok.ok (GT.dat t1)):Spec Tryz.prog 29 [.agg (GT.cells t1).toArray,.int .i64 left].toArray w [] (IsV (.int .i64 (if (Bk.bulk t1:Int)≤left then left - (Bk.bulk t1:Int) else -1))):=by
 obtain ⟨a1,a2,a3,a4,a5,a6,a7,a8⟩:=t1
 have hs3:a4.size≤9223372036854775807:=ho.2.2.2.1
 have hs4:a5.size≤9223372036854775807:=ho.2.2.2.2.1
 have hs5:a6.size≤9223372036854775807:=ho.2.2.2.2.2.1
 change Spec _ _ [Value.agg #[.int .i64 a1,.int .i64 a2,.int .i64 a3,.string a4,.string a5,.string a6,.int .i64 a7,a8.hdr],.int .i64 left].toArray w [] _
 refine Spec.intro Tryz.func29 rfl Tryz.ntmps29 rfl ?_
 refine s2 ?_
 refine bx fun bk2=>?_
 refine s6 ?_
 refine L_load rfl rfl (by first | exact RdC.blk mm) one9.h rfl ?_
 refine s1 ?_
 refine L_binV rfl rfl rfl (bv_subR (by unfold inR;omega)) ?_
 refine s8 ?_
 refine kp [1,2,11] ?_
 refine W_cond rfl (fun q2=>?_) (fun q2=>?_)
 ·have hb3:left - (a4.size:Int) < 0:=by simpa using q2
  refine s5 ?_
  refine res1 rfl (ResOK.tmp rfl) ⟨?_,rfl⟩ ms
  try simp only [bulk_pair,bulk_int,bulk_bool,bulk_str,Int.natCast_add,Int.natCast_zero] at *
  all_goals first
   | rfl
   | (rw [if_pos (by omega)]<;>(congr 1<;>omega))
   | (rw [if_neg (by omega)])
 ·have hb3:¬ (left - (a4.size:Int) < 0):=by simpa using q2
  refine s5 ?_
  refine L_load rfl rfl (by first | exact RdC.blk mm) one9.h rfl ?_
  refine s1 ?_
  refine L_binV rfl rfl rfl (bv_subR (by unfold inR;omega)) ?_
  refine s8 ?_
  refine kp [1,2,18] ?_
  refine W_cond rfl (fun q5=>?_) (fun q5=>?_)
  ·have hb4:left - (a4.size:Int) - (a5.size:Int) < 0:=by simpa using q5
   refine s5 ?_
   refine res1 rfl (ResOK.tmp rfl) ⟨?_,rfl⟩ ms
   try simp only [bulk_pair,bulk_int,bulk_bool,bulk_str,Int.natCast_add,Int.natCast_zero] at *
   all_goals first
    | rfl
    | (rw [if_pos (by omega)]<;>(congr 1<;>omega))
    | (rw [if_neg (by omega)])
  ·have hb4:¬ (left - (a4.size:Int) - (a5.size:Int) < 0):=by simpa using q5
   refine s5 ?_
   refine L_load rfl rfl (by first | exact RdC.blk mm) one9.h rfl ?_
   refine s1 ?_
   refine L_binV rfl rfl rfl (bv_subR (by unfold inR;omega)) ?_
   refine s8 ?_
   refine kp [1,2,25] ?_
   refine W_cond rfl (fun q8=>?_) (fun q8=>?_)
   ·have hb5:left - (a4.size:Int) - (a5.size:Int) - (a6.size:Int) < 0:=by simpa using q8
    refine s5 ?_
    refine res1 rfl (ResOK.tmp rfl) ⟨?_,rfl⟩ ms
    try simp only [bulk_pair,bulk_int,bulk_bool,bulk_str,Int.natCast_add,Int.natCast_zero] at *
    all_goals first
     | rfl
     | (rw [if_pos (by omega)]<;>(congr 1<;>omega))
     | (rw [if_neg (by omega)])
   ·have hb5:¬ (left - (a4.size:Int) - (a5.size:Int) - (a6.size:Int) < 0):=by simpa using q8
    refine s4 ?_
    refine L_load rfl rfl (by first | exact RdC.blk mm) one30.h rfl ?_
    refine s1 ?_
    refine L_callX rfl fn85.h rfl (by exact fun w hw=>szStringS_spec w _ (left - (a4.size:Int) - (a5.size:Int) - (a6.size:Int)) (by omega) (by omega) (rd_carry (h1.2.2.2.2.2.2.2) hw) ho.2.2.2.2.2.2.2) ?_
    refine s8 ?_
    refine kp [1,31] ?_
    refine W_cond rfl (fun q11=>?_) (fun q11=>?_)
    ·have hb7:¬ ((Bk.bulk a8:Int)≤left - (a4.size:Int) - (a5.size:Int) - (a6.size:Int)):=by
      intro hn
      rw [if_pos hn] at q11;simp at q11;omega
     refine s5 ?_
     refine res1 rfl (ResOK.tmp rfl) ⟨?_,rfl⟩ ms
     try simp only [bulk_pair,bulk_int,bulk_bool,bulk_str,Int.natCast_add,Int.natCast_zero] at *
     all_goals first
      | rfl
      | (rw [if_pos (by omega)]<;>(congr 1<;>omega))
      | (rw [if_neg (by omega)])
    ·have hb7:(Bk.bulk a8:Int)≤left - (a4.size:Int) - (a5.size:Int) - (a6.size:Int):=by
      rcases Int.decLt (left - (a4.size:Int) - (a5.size:Int) - (a6.size:Int)) (Bk.bulk a8:Int) with hn | hn
      ·omega
      ·rw [if_neg (by omega)] at q11;simp at q11
     rw [if_pos hb7]
     refine s7 ?_
     refine res1 rfl (ResOK.tmp rfl) ⟨?_,rfl⟩ ms
     try simp only [bulk_pair,bulk_int,bulk_bool,bulk_str,Int.natCast_add,Int.natCast_zero] at *
     all_goals first
      | rfl
      | (rw [if_pos (by omega)]<;>(congr 1<;>omega))
      | (rw [if_neg (by omega)])
theorem toCmd_spec (w:World) (t1:T_Cmd) (h1:GT.rd w [] t1) (hb:Bk.bulk t1≤1048576):Spec Tryz.prog 31 [.agg (GT.cells t1).toArray].toArray w [] (fun v M=>∃ t2:T_Cmd,v=.agg (GT.cells t2).toArray∧GT.dat t2=GT.dat t1∧M=[treeH t2]):=by
 obtain ⟨a1,a2,a3,a4,a5,a6,a7,a8⟩:=t1
 have hbk_7:Bk.bulk a8≤1048576:=by (try simp only [bulk_pair,bulk_int,bulk_bool,bulk_str] at hb ⊢);omega
 change Spec _ _ [Value.agg #[.int .i64 a1,.int .i64 a2,.int .i64 a3,.string a4,.string a5,.string a6,.int .i64 a7,a8.hdr]].toArray w [] _
 refine Spec.intro Tryz.func31 rfl Tryz.ntmps31 rfl ?_
 refine s2 ?_
 refine bx fun bk1=>?_
 refine al fun bk2=>?_
 refine s3 ?_
 refine al fun bk3=>?_
 refine s4 ?_
 refine L_load rfl rfl (by first | exact RdC.blk mm) one3.h rfl ?_
 refine s6 ?_
 refine L_load rfl rfl (by first | exact RdC.blk mm) one3.h rfl ?_
 refine s6 ?_
 refine L_load rfl rfl (by first | exact RdC.blk mm) one3.h rfl ?_
 refine s6 ?_
 refine L_load rfl rfl (by first | exact RdC.blk mm) one9.h rfl ?_
 refine s6 ?_
 refine L_load rfl rfl (by first | exact RdC.blk mm) one9.h rfl ?_
 refine s6 ?_
 refine L_load rfl rfl (by first | exact RdC.blk mm) one9.h rfl ?_
 refine s6 ?_
 refine L_load rfl rfl (by first | exact RdC.blk mm) one3.h rfl ?_
 refine s6 ?_
 refine L_load rfl rfl (by first | exact RdC.blk mm) one30.h rfl ?_
 refine L_callR rfl fn89.h rfl (by exact fun w hw=>toStringS_spec w _ (rd_carry (h1.2.2.2.2.2.2.2) hw) hbk_7) ?_
 rintro v M1 ⟨n8t,hv,hd7,rfl⟩
 subst hv
 simp only [List.cons_append,List.nil_append]
 refine s5 ?_
 refine L_loadW rfl rfl (by first | exact RdC.blk mm) (by exact agg32.h) ?_
 refine L_storeW rfl rfl pk (by exact agg32.h) (by rfl) (by first | (simp [Value.oneCell',TL.hdr];done) | (simp [Value.oneCell',TL.hdr,Value.cells];done) | exact fun v hv=>GT.one _ v hv) ?_
 refine s1 ?_
 refine W_conv (M':=treeH ((a1,a2,a3,a4,a5,a6,a7,n8t):T_Cmd)::_) (fun w h=>(tree_snd (flat_int (h1.1)) (tree_snd (flat_int (h1.2.1)) (tree_snd (flat_int (h1.2.2.1)) (tree_snd (flat_str (h1.2.2.2.1)) (tree_snd (flat_str (h1.2.2.2.2.1)) (tree_snd (flat_str (h1.2.2.2.2.2.1)) (tree_snd (flat_int (h1.2.2.2.2.2.2.1)) (frontPick pk h))))))))) ?_
 refine s1 ?_
 refine res1 rfl (ResOK.cell rfl mm (by exact agg32.h)) ⟨(a1,a2,a3,a4,a5,a6,a7,n8t),rfl,by simp only [dat_pair,hd7],rfl⟩ ms
theorem markIdS_spec (w:World) (t1:TL T_Id) (k0:Nat) (hk0:0 < k0) (hb:k0+Mk.cnt t1 < 9223372036854775807):Spec Tryz.prog 80 [t1.hdr,.int .i64 (k0:Int)].toArray w [treeH t1] (fun v M=>v=.int .i64 ((k0+Mk.cnt t1:Nat):Int)∧M=[treeH (Mk.mkd k0 t1)]):=by
 obtain ⟨a1,c1,e1,x1,y1⟩:=t1
 replace hb:k0+cnts x1 < 9223372036854775807:=hb
 dsimp only [TL.hdr]
 refine Spec.intro Tryz.func80 rfl Tryz.ntmps80 rfl ?_
 refine W_fact (fun w h=>ow_facts (h.prs _ (List.mem_cons_self ..))) fun hF=>?_
 replace hF:x1.length≤9223372036854775807∧(0 < x1.length→∃ g,a1=some ⟨g,0,none⟩):=hF
 refine s10 ?_
 refine W_conv (M':=[treeH (⟨a1,c1,e1,half k0 0 x1,y1⟩:TL T_Id)]) (fun w h=>by rw [half_zero];exact h) ?_
 refine W_loopC (σ:=Nat) 0 (fun (i:Nat)=>[(1,.int .i64 ((k0+cnts (x1.take i):Nat):Int)),(5,.int .i64 (i:Int))]) (fun (i:Nat)=>[treeH (⟨a1,c1,e1,half k0 i x1,y1⟩:TL T_Id)]) (fun (i:Nat)=>i≤x1.length) (fun (i:Nat)=>x1.length - i) [(0,_)] [] ?_ sb ms ?_
 ·exact Nat.zero_le _
 ·rintro i hi
  refine kq [0,1,5] ?_
  refine s5 ?_
  refine L_lenS rfl rfl el33.h ?_
  refine s2 ?_
  refine kp [0,1,5,9] ?_
  refine W_cond rfl (fun q2=>?_) (fun q2=>?_)
  ·have hk1:i < x1.length:=by simpa using q2
   obtain ⟨g,rfl⟩:=hF.2 (by omega)
   obtain ⟨u,hu⟩:=getEl hk1
   have hs:=cnts_take_succ hu
   have hle:=cnts_take_le x1 (i+1)
   have hlh:=half_length k0 i x1
   obtain ⟨b1,b2⟩:=u
   simp only [cnt_pair,cnt_int,cnt_str] at hs
   refine s8 ?_
   refine L_indexAddr rfl rfl rfl el33.h rfl (by omega) ?_
   refine s1 ?_
   refine L_storeElF (fo:=0) (x':=(((((k0+cnts (x1.take i)):Nat):Int),b2):T_Id)) rfl rfl pk rfl (show ((half k0 i x1):List T_Id)[i]?=some ((b1,b2):T_Id) from half_get (k:=k0) hu) rfl rfl (by decide) rfl (fun w h=>by exact ⟨(by exact trivial),h.2⟩) one3.h ?_
   refine s4 ?_
   refine L_binV rfl rfl rfl (bv_addR (by unfold inR;omega)) ?_
   refine s2 ?_
   rw [show (((k0+cnts (x1.take i)):Nat):Int)+1=((((k0+cnts (x1.take i))+1):Nat):Int) from rfl]
   refine s5 ?_
   refine L_indexAddr rfl rfl rfl el33.h rfl (by omega) ?_
   refine s1 ?_
   refine L_storeElF (fo:=1) (x':=(((((k0+cnts (x1.take i)):Nat):Int),((((k0+cnts (x1.take i))+1):Nat):Int)):T_Id)) rfl rfl pk rfl (show (((half k0 i x1).set i (((((k0+cnts (x1.take i)):Nat):Int),b2):T_Id)):List T_Id)[i]?=some (((((k0+cnts (x1.take i)):Nat):Int),b2):T_Id) from set_get (half_get (k:=k0) hu)) rfl rfl (by decide) rfl (fun w h=>by exact ⟨h.1,(by exact trivial)⟩) one3.h ?_
   rw [List.set_set]
   refine s3 ?_
   refine L_binV rfl rfl rfl (bv_addR (by unfold inR;omega)) ?_
   refine s2 ?_
   rw [show ((((k0+cnts (x1.take i))+1):Nat):Int)+1=((((k0+cnts (x1.take i))+2):Nat):Int) from rfl]
   have hfin:((half k0 i x1).set i (((((k0+cnts (x1.take i)):Nat):Int),((((k0+cnts (x1.take i))+1):Nat):Int)):T_Id))=half k0 (i+1) x1:=by
    have h9:=half_set (k:=k0) hu
    try simp only [mk_pair,mk_int,mk_str,cnt_pair,cnt_int,cnt_str,← Nat.add_assoc] at h9
    try simp only [List.set_set]
    exact h9
   refine W_conv (M':=treeH (⟨some ⟨g,0,none⟩,c1,e1,(half k0 (i+1) x1),y1⟩:TL T_Id)::_) (fun w h=>by rw [← hfin];exact h) ?_
   have hE:((k0+cnts (x1.take i))+2)=k0+cnts (x1.take (i+1)):=by rw [hs];(try simp only [cnt_pair,cnt_int,cnt_str]);omega
   rw [hE]
   refine s2 ?_
   refine L_binV rfl rfl rfl (bv_addR (by unfold inR;omega)) ?_
   refine s2 ?_
   refine ⟨i+1,sb,ms,?_,?_⟩
   ·show i+1≤x1.length
    omega
   ·show x1.length - (i+1) < x1.length - i
    omega
  ·refine W_exit ?_
   refine s6 ?_
   have hk2:x1.length≤i:=by simpa using q2
   rw [half_all k0 hk2]
   refine res1 rfl (ResOK.tmp rfl) ⟨?_,rfl⟩ ms
   have hk2:x1.length≤i:=by simpa using q2
   rw [List.take_of_length_le hk2];rfl
theorem heldIdS_spec (w:World) (t1:TL T_Id) (k0:Nat) (hk0:0 < k0) (hb:k0+Mk.cnt t1 < 9223372036854775807) (h1:GT.rd w [] (Mk.mkd k0 t1)):Spec Tryz.prog 84 [(Mk.mkd k0 t1).hdr,.int .i64 (k0:Int)].toArray w [] (IsV (.int .i64 ((k0+Mk.cnt t1:Nat):Int))):=by
 obtain ⟨a1,c1,e1,x1,y1⟩:=t1
 replace hb:k0+cnts x1 < 9223372036854775807:=hb
 have hml:=mks_length x1 k0
 have hm1:(mks k0 x1).length≤9223372036854775807:=rd_len h1
 rw [mk_TL] at h1 ⊢
 dsimp only [TL.hdr]
 refine Spec.intro Tryz.func84 rfl Tryz.ntmps84 rfl ?_
 refine s10 ?_
 refine W_loopC (σ:=Nat) 0 (fun (i:Nat)=>[(1,.int .i64 ((k0+cnts (x1.take i):Nat):Int)),(5,.int .i64 (i:Int))]) (fun (i:Nat)=>[]) (fun (i:Nat)=>i≤x1.length) (fun (i:Nat)=>x1.length - i) [(0,_)] [] ?_ sb ms ?_
 ·exact Nat.zero_le _
 ·rintro i hi
  refine kq [0,1,5] ?_
  refine s5 ?_
  refine L_lenS rfl rfl el33.h ?_
  refine s2 ?_
  refine kp [0,1,5,9] ?_
  refine W_cond rfl (fun q2=>?_) (fun q2=>?_)
  ·have hk1:i < (mks k0 x1).length:=by simpa using q2
   obtain ⟨g,o1,rfl⟩:=rd_addr h1 hk1
   obtain ⟨u,hu⟩:=getEl (show i < x1.length by omega)
   have hs:=cnts_take_succ hu
   have hle:=cnts_take_le x1 (i+1)
   have hu2:=mks_get (k:=k0) hu
   obtain ⟨b1,b2⟩:=u
   simp only [mk_pair,mk_int,mk_str,cnt_pair,cnt_int,cnt_str,← Nat.add_assoc] at hs hu2
   refine s8 ?_
   refine L_indexAddr rfl rfl rfl el33.h rfl (by omega) ?_
   refine s1 ?_
   refine L_load rfl rfl (by first | exact RdC.blk mm | exact RdC.old (Cells.el h1 rfl hu2)) one3.h rfl ?_
   refine s3 ?_
   refine kp [0,1,5,18] ?_
   refine W_cond rfl (fun q4=>?_) (fun q4=>?_)
   ·refine s5 ?_
    refine res1 rfl (ResOK.tmp rfl) ⟨?_,rfl⟩ ms
    exfalso;simp [mk_int,mk_str] at q4
   ·refine s4 ?_
    refine L_binV rfl rfl rfl (bv_addR (by unfold inR;omega)) ?_
    refine s2 ?_
    rw [show (((k0+cnts (x1.take i)):Nat):Int)+1=(((k0+cnts (x1.take i))+1:Nat):Int) from rfl]
    refine s5 ?_
    refine L_indexAddr rfl rfl rfl el33.h rfl (by omega) ?_
    refine s1 ?_
    refine L_load rfl rfl (by first | exact RdC.blk mm | exact RdC.old (Cells.el h1 rfl hu2)) one3.h rfl ?_
    refine s3 ?_
    refine kp [0,1,5,27] ?_
    refine W_cond rfl (fun q7=>?_) (fun q7=>?_)
    ·refine s5 ?_
     refine res1 rfl (ResOK.tmp rfl) ⟨?_,rfl⟩ ms
     exfalso;simp [mk_int,mk_str] at q7
    ·refine s3 ?_
     refine L_binV rfl rfl rfl (bv_addR (by unfold inR;omega)) ?_
     refine s2 ?_
     rw [show ((((k0+cnts (x1.take i))+1):Nat):Int)+1=((((k0+cnts (x1.take i))+1)+1:Nat):Int) from rfl]
     have hE:(((k0+cnts (x1.take i))+1)+1)=k0+cnts (x1.take (i+1)):=by rw [hs];(try simp only [cnt_pair,cnt_int,cnt_str]);omega
     rw [hE]
     refine s2 ?_
     refine L_binV rfl rfl rfl (bv_addR (by unfold inR;omega)) ?_
     refine s2 ?_
     refine ⟨i+1,sb,ms,?_,?_⟩
     ·show i+1≤x1.length
      omega
     ·show x1.length - (i+1) < x1.length - i
      omega
  ·refine W_exit ?_
   refine s6 ?_
   refine res1 rfl (ResOK.tmp rfl) ⟨?_,rfl⟩ ms
   have hk2:(mks k0 x1).length≤i:=by simpa using q2
   rw [List.take_of_length_le (by omega)];rfl
theorem markStringS_spec (w:World) (t1:TL ByteArray) (k0:Nat) (hk0:0 < k0) (hb:k0+Mk.cnt t1 < 9223372036854775807):Spec Tryz.prog 79 [t1.hdr,.int .i64 (k0:Int)].toArray w [treeH t1] (fun v M=>v=.int .i64 ((k0+Mk.cnt t1:Nat):Int)∧M=[treeH (Mk.mkd k0 t1)]):=by
 obtain ⟨a1,c1,e1,x1,y1⟩:=t1
 replace hb:k0+cnts x1 < 9223372036854775807:=hb
 dsimp only [TL.hdr]
 refine Spec.intro Tryz.func79 rfl Tryz.ntmps79 rfl ?_
 refine W_fact (fun w h=>ow_facts (h.prs _ (List.mem_cons_self ..))) fun hF=>?_
 replace hF:x1.length≤9223372036854775807∧(0 < x1.length→∃ g,a1=some ⟨g,0,none⟩):=hF
 refine s10 ?_
 refine W_conv (M':=[treeH (⟨a1,c1,e1,half k0 0 x1,y1⟩:TL ByteArray)]) (fun w h=>by rw [half_zero];exact h) ?_
 refine W_loopC (σ:=Nat) 0 (fun (i:Nat)=>[(1,.int .i64 ((k0+cnts (x1.take i):Nat):Int)),(5,.int .i64 (i:Int))]) (fun (i:Nat)=>[treeH (⟨a1,c1,e1,half k0 i x1,y1⟩:TL ByteArray)]) (fun (i:Nat)=>i≤x1.length) (fun (i:Nat)=>x1.length - i) [(0,_)] [] ?_ sb ms ?_
 ·exact Nat.zero_le _
 ·rintro i hi
  refine kq [0,1,5] ?_
  refine s5 ?_
  refine L_lenS rfl rfl el30.h ?_
  refine s2 ?_
  refine kp [0,1,5,9] ?_
  refine W_cond rfl (fun q2=>?_) (fun q2=>?_)
  ·have hk1:i < x1.length:=by simpa using q2
   obtain ⟨g,rfl⟩:=hF.2 (by omega)
   obtain ⟨u,hu⟩:=getEl hk1
   have hs:=cnts_take_succ hu
   have hle:=cnts_take_le x1 (i+1)
   have hlh:=half_length k0 i x1
   try simp only [cnt_int,cnt_str] at hs
   refine s8 ?_
   refine L_callX rfl fn78.h rfl (by exact fun w hw=>markText_spec w (k0+cnts (x1.take i)) (by omega) (by omega)) ?_
   refine L_indexAddr rfl rfl rfl el30.h rfl (by omega) ?_
   refine L_storeElV (mtx (k0+cnts (x1.take i))) rfl rfl pk rfl (show ((half k0 i x1):List ByteArray)[i]?=some (u:ByteArray) from half_get (k:=k0) hu) rfl (flat_str trivial) (.inr ⟨one9.h,rfl⟩) ?_
   refine s3 ?_
   refine L_binV rfl rfl rfl (bv_addR (by unfold inR;omega)) ?_
   refine s2 ?_
   rw [show (((k0+cnts (x1.take i)):Nat):Int)+1=((((k0+cnts (x1.take i))+1):Nat):Int) from rfl]
   have hfin:((half k0 i x1).set i (mtx (k0+cnts (x1.take i))))=half k0 (i+1) x1:=by
    have h9:=half_set (k:=k0) hu
    try simp only [mk_pair,mk_int,mk_str,cnt_pair,cnt_int,cnt_str,← Nat.add_assoc] at h9
    try simp only [List.set_set]
    exact h9
   refine W_conv (M':=treeH (⟨some ⟨g,0,none⟩,c1,e1,(half k0 (i+1) x1),y1⟩:TL ByteArray)::_) (fun w h=>by rw [← hfin];exact h) ?_
   have hE:((k0+cnts (x1.take i))+1)=k0+cnts (x1.take (i+1)):=by rw [hs];(try simp only [cnt_pair,cnt_int,cnt_str]);omega
   rw [hE]
   refine s2 ?_
   refine L_binV rfl rfl rfl (bv_addR (by unfold inR;omega)) ?_
   refine s2 ?_
   refine ⟨i+1,sb,ms,?_,?_⟩
   ·show i+1≤x1.length
    omega
   ·show x1.length - (i+1) < x1.length - i
    omega
  ·refine W_exit ?_
   refine s6 ?_
   have hk2:x1.length≤i:=by simpa using q2
   rw [half_all k0 hk2]
   refine res1 rfl (ResOK.tmp rfl) ⟨?_,rfl⟩ ms
   have hk2:x1.length≤i:=by simpa using q2
   rw [List.take_of_length_le hk2];rfl
theorem heldStringS_spec (w:World) (t1:TL ByteArray) (k0:Nat) (hk0:0 < k0) (hb:k0+Mk.cnt t1 < 9223372036854775807) (h1:GT.rd w [] (Mk.mkd k0 t1)):Spec Tryz.prog 83 [(Mk.mkd k0 t1).hdr,.int .i64 (k0:Int)].toArray w [] (IsV (.int .i64 ((k0+Mk.cnt t1:Nat):Int))):=by
 obtain ⟨a1,c1,e1,x1,y1⟩:=t1
 replace hb:k0+cnts x1 < 9223372036854775807:=hb
 have hml:=mks_length x1 k0
 have hm1:(mks k0 x1).length≤9223372036854775807:=rd_len h1
 rw [mk_TL] at h1 ⊢
 dsimp only [TL.hdr]
 refine Spec.intro Tryz.func83 rfl Tryz.ntmps83 rfl ?_
 refine s10 ?_
 refine W_loopC (σ:=Nat) 0 (fun (i:Nat)=>[(1,.int .i64 ((k0+cnts (x1.take i):Nat):Int)),(5,.int .i64 (i:Int))]) (fun (i:Nat)=>[]) (fun (i:Nat)=>i≤x1.length) (fun (i:Nat)=>x1.length - i) [(0,_)] [] ?_ sb ms ?_
 ·exact Nat.zero_le _
 ·rintro i hi
  refine kq [0,1,5] ?_
  refine s5 ?_
  refine L_lenS rfl rfl el30.h ?_
  refine s2 ?_
  refine kp [0,1,5,9] ?_
  refine W_cond rfl (fun q2=>?_) (fun q2=>?_)
  ·have hk1:i < (mks k0 x1).length:=by simpa using q2
   obtain ⟨g,o1,rfl⟩:=rd_addr h1 hk1
   obtain ⟨u,hu⟩:=getEl (show i < x1.length by omega)
   have hs:=cnts_take_succ hu
   have hle:=cnts_take_le x1 (i+1)
   have hu2:=mks_get (k:=k0) hu
   try simp only [cnt_int,cnt_str] at hs
   refine s5 ?_
   refine W_D0 [18] mix (by kernel_rfl) rfl ?_
   refine s2 ?_
   refine D_indexAddr _ GC.none (OpV.t rfl) (OpV.t rfl) el30.h (fun hg=>⟨rfl,by (try dsimp only);omega⟩) ?_
   refine D_load0 GC.none (OpV.t rfl) (fun hg=>(by first | exact RdC.blk mm | exact RdC.old (Cells.el h1 rfl hu2))) one9.h rfl ?_
   refine s1 ?_
   refine D_callX GC.none fn78.h (OpVs.cons (OpV.t rfl) (OpVs.nil)) (by exact fun hg w F hF hM=>(fun w hw=>markText_spec w (k0+cnts (x1.take i)) (by omega) (by omega)) w hF) ?_
   refine s10 ?_
   refine kp [0,1,5,18] ?_
   refine W_cond rfl (fun q4=>?_) (fun q4=>?_)
   ·refine s5 ?_
    refine res1 rfl (ResOK.tmp rfl) ⟨?_,rfl⟩ ms
    exfalso;simp [mk_int,mk_str] at q4
   ·refine s3 ?_
    refine L_binV rfl rfl rfl (bv_addR (by unfold inR;omega)) ?_
    refine s2 ?_
    rw [show (((k0+cnts (x1.take i)):Nat):Int)+1=(((k0+cnts (x1.take i))+1:Nat):Int) from rfl]
    have hE:((k0+cnts (x1.take i))+1)=k0+cnts (x1.take (i+1)):=by rw [hs];(try simp only [cnt_pair,cnt_int,cnt_str]);omega
    rw [hE]
    refine s2 ?_
    refine L_binV rfl rfl rfl (bv_addR (by unfold inR;omega)) ?_
    refine s2 ?_
    refine ⟨i+1,sb,ms,?_,?_⟩
    ·show i+1≤x1.length
     omega
    ·show x1.length - (i+1) < x1.length - i
     omega
  ·refine W_exit ?_
   refine s6 ?_
   refine res1 rfl (ResOK.tmp rfl) ⟨?_,rfl⟩ ms
   have hk2:(mks k0 x1).length≤i:=by simpa using q2
   rw [List.take_of_length_le (by omega)];rfl
end Go.Proofs.SL
