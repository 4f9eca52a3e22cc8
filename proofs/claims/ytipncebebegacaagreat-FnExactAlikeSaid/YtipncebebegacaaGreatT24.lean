/- The texts of the proof, part 24: the base, walks of functions, plain Lean. -/
import Derived.Test.YtipncebebegacaaGreatRows
import Derived.Test.YtipncebebegacaaGreatT22
import Derived.Test.YtipncebebegacaaGreatT23
import Derived.Test.YtipncebebegacaaGreatT6
namespace Go.Proofs.SL
open Go
set_option maxHeartbeats 2000000
instance fn137:FnF Tryz.prog 137:=⟨_,Tryz.func137,by kernel_rfl,rfl⟩
instance fld114_6:FldF Tryz.prog 114 6 7:=⟨by kernel_rfl⟩
instance fld106_4:FldF Tryz.prog 106 4 5:=⟨by kernel_rfl⟩
instance fld106_5:FldF Tryz.prog 106 5 6:=⟨by kernel_rfl⟩
instance fn106:FnF Tryz.prog 106:=⟨_,Tryz.func106,by kernel_rfl,rfl⟩
instance fld106_0:FldF Tryz.prog 106 0 0:=⟨by kernel_rfl⟩
instance fld106_1:FldF Tryz.prog 106 1 2:=⟨by kernel_rfl⟩
instance fld106_2:FldF Tryz.prog 106 2 3:=⟨by kernel_rfl⟩
instance fld106_3:FldF Tryz.prog 106 3 4:=⟨by kernel_rfl⟩
instance fn119:FnF Tryz.prog 119:=⟨_,Tryz.func119,by kernel_rfl,rfl⟩
instance fld106_6:FldF Tryz.prog 106 6 7:=⟨by kernel_rfl⟩
instance fn80:FnF Tryz.prog 80:=⟨_,Tryz.func80,by kernel_rfl,rfl⟩
instance el23:ElF Tryz.prog 23 106 8 96 [.int .i64 0,.int .i64 0,.int .i64 0,.int .i64 0,.int .i64 0,.slice none 0 0,.slice none 0 0,.bool false]:=⟨by kernel_rfl⟩
instance agg106:AggF Tryz.prog 106 8:=⟨by kernel_rfl⟩
instance fn61:FnF Tryz.prog 61:=⟨_,Tryz.func61,by kernel_rfl,rfl⟩
instance fn70:FnF Tryz.prog 70:=⟨_,Tryz.func70,by kernel_rfl,rfl⟩
theorem eqLead_spec (w:World) (t1 t2:T_Lead) (h1:GT.rd w [] t1) (h2:GT.rd w [] t2):Spec Tryz.prog 80 [.agg (GT.cells t1).toArray,.agg (GT.cells t2).toArray].toArray w [] (IsV (.bool (eqB (GT.dat t1) (GT.dat t2)))):=by
 obtain ⟨⟨a11,a12⟩,a2,a3,a4,a5,a6,a7⟩:=t1
 obtain ⟨⟨b11,b12⟩,b2,b3,b4,b5,b6,b7⟩:=t2
 change Spec _ _ [Value.agg #[.int .i64 a11,.int .i64 a12,.int .i64 a2,.int .i64 a3,.int .i64 a4,a5.hdr,a6.hdr,.bool a7],Value.agg #[.int .i64 b11,.int .i64 b12,.int .i64 b2,.int .i64 b3,.int .i64 b4,b5.hdr,b6.hdr,.bool b7]].toArray w [] _
 refine Spec.intro Tryz.func80 rfl Tryz.ntmps80 rfl ?_
 refine s2 ?_
 refine bx fun bk2=>?_
 refine bx fun bk3=>?_
 refine s6 ?_
 refine L_loadW rfl rfl (RdC.seg (by first | exact RdC.blk mm) 0 2 rfl) (by exact agg92.h) ?_
 refine s1 ?_
 refine L_loadW rfl rfl (RdC.seg (by first | exact RdC.blk mm) 0 2 rfl) (by exact agg92.h) ?_
 refine L_callX rfl fn134.h rfl (by exact fun w hw=>eqId_spec w (a11,a12) (b11,b12) (rd_carry (h1.1) hw) (rd_carry (h2.1) hw)) ?_
 refine s2 ?_
 refine kp [2,3,10] ?_
 refine W_cond rfl (fun q1=>?_) (fun q1=>?_)
 ·refine s5 ?_
  refine res1 rfl (ResOK.tmp rfl) ⟨?_,rfl⟩ ms
  clear h1 h2
  exact eqx
 ·refine s5 ?_
  refine L_load rfl rfl (by first | exact RdC.blk mm) one3.h rfl ?_
  refine s1 ?_
  refine L_load rfl rfl (by first | exact RdC.blk mm) one3.h rfl ?_
  refine s2 ?_
  refine kp [2,3,15] ?_
  refine W_cond rfl (fun q3=>?_) (fun q3=>?_)
  ·refine s5 ?_
   refine res1 rfl (ResOK.tmp rfl) ⟨?_,rfl⟩ ms
   clear h1 h2
   exact eqx
  ·refine s5 ?_
   refine L_load rfl rfl (by first | exact RdC.blk mm) one3.h rfl ?_
   refine s1 ?_
   refine L_load rfl rfl (by first | exact RdC.blk mm) one3.h rfl ?_
   refine s2 ?_
   refine kp [2,3,20] ?_
   refine W_cond rfl (fun q5=>?_) (fun q5=>?_)
   ·refine s5 ?_
    refine res1 rfl (ResOK.tmp rfl) ⟨?_,rfl⟩ ms
    clear h1 h2
    exact eqx
   ·refine s5 ?_
    refine L_load rfl rfl (by first | exact RdC.blk mm) one3.h rfl ?_
    refine s1 ?_
    refine L_load rfl rfl (by first | exact RdC.blk mm) one3.h rfl ?_
    refine s2 ?_
    refine kp [2,3,25] ?_
    refine W_cond rfl (fun q7=>?_) (fun q7=>?_)
    ·refine s5 ?_
     refine res1 rfl (ResOK.tmp rfl) ⟨?_,rfl⟩ ms
     clear h1 h2
     exact eqx
    ·refine s5 ?_
     refine L_load rfl rfl (by first | exact RdC.blk mm) one85.h rfl ?_
     refine s1 ?_
     refine L_load rfl rfl (by first | exact RdC.blk mm) one85.h rfl ?_
     refine L_callX rfl fn136.h rfl (by exact fun w hw=>eqIdS_spec w _ _ (rd_carry (h1.2.2.2.2.1) hw) (rd_carry (h2.2.2.2.2.1) hw)) ?_
     refine s2 ?_
     refine kp [2,3,31] ?_
     refine W_cond rfl (fun q9=>?_) (fun q9=>?_)
     ·refine s5 ?_
      refine res1 rfl (ResOK.tmp rfl) ⟨?_,rfl⟩ ms
      clear h1 h2
      exact eqx
     ·refine s5 ?_
      refine L_load rfl rfl (by first | exact RdC.blk mm) one104.h rfl ?_
      refine s1 ?_
      refine L_load rfl rfl (by first | exact RdC.blk mm) one104.h rfl ?_
      refine L_callX rfl fn137.h rfl (by exact fun w hw=>eqIntS_spec w _ _ (rd_carry (h1.2.2.2.2.2.1) hw) (rd_carry (h2.2.2.2.2.2.1) hw)) ?_
      refine s2 ?_
      refine kp [2,3,37] ?_
      refine W_cond rfl (fun q11=>?_) (fun q11=>?_)
      ·refine s5 ?_
       refine res1 rfl (ResOK.tmp rfl) ⟨?_,rfl⟩ ms
       clear h1 h2
       exact eqx
      ·refine s5 ?_
       refine L_load rfl rfl (by first | exact RdC.blk mm) one4.h rfl ?_
       refine s1 ?_
       refine L_load rfl rfl (by first | exact RdC.blk mm) one4.h rfl ?_
       refine s2 ?_
       refine kp [42] ?_
       refine W_cond rfl (fun q13=>?_) (fun q13=>?_)
       ·refine s5 ?_
        refine res1 rfl (ResOK.tmp rfl) ⟨?_,rfl⟩ ms
        clear h1 h2
        exact eqx
       ·refine s6 ?_
        refine res1 rfl (ResOK.tmp rfl) ⟨?_,rfl⟩ ms
        clear h1 h2
        exact eqx
theorem szLead_spec (w:World) (t1:T_Lead) (left:Int) (hl:0≤left) (hm:left≤1048576) (h1:GT.rd w [] t1) (ho:Ok.ok (GT.dat t1)):Spec Tryz.prog 61 [.agg (GT.cells t1).toArray,.int .i64 left].toArray w [] (IsV (.int .i64 (if (Bk.bulk t1:Int)≤left then left - (Bk.bulk t1:Int) else -1))):=by
 obtain ⟨⟨a11,a12⟩,a2,a3,a4,a5,a6,a7⟩:=t1
 change Spec _ _ [Value.agg #[.int .i64 a11,.int .i64 a12,.int .i64 a2,.int .i64 a3,.int .i64 a4,a5.hdr,a6.hdr,.bool a7],.int .i64 left].toArray w [] _
 refine Spec.intro Tryz.func61 rfl Tryz.ntmps61 rfl ?_
 refine s2 ?_
 refine bx fun bk2=>?_
 refine s5 ?_
 refine L_load rfl rfl (by first | exact RdC.blk mm) one100.h rfl ?_
 refine s1 ?_
 refine L_callX rfl fn105.h rfl (by exact fun w hw=>szIdS_spec w _ (left) (by omega) (by omega) (rd_carry (h1.2.2.2.2.1) hw) ho.2.2.2.2.1) ?_
 refine s8 ?_
 refine kp [1,2,10] ?_
 refine W_cond rfl (fun q2=>?_) (fun q2=>?_)
 ·have hb4:¬ ((Bk.bulk a5:Int)≤left):=by
   intro hn
   rw [if_pos hn] at q2;simp at q2;omega
  refine s5 ?_
  refine res1 rfl (ResOK.tmp rfl) ⟨?_,rfl⟩ ms
  try simp only [bulk_pair,bulk_int,bulk_bool,bulk_str,Int.natCast_add,Int.natCast_zero] at *
  all_goals first
   | rfl
   | (rw [if_pos (by omega)]<;>(congr 1<;>omega))
   | (rw [if_neg (by omega)])
 ·have hb4:(Bk.bulk a5:Int)≤left:=by
   rcases Int.decLt (left) (Bk.bulk a5:Int) with hn | hn
   ·omega
   ·rw [if_neg (by omega)] at q2;simp at q2
  rw [if_pos hb4]
  refine s4 ?_
  refine L_load rfl rfl (by first | exact RdC.blk mm) one104.h rfl ?_
  refine s1 ?_
  refine L_callX rfl fn106.h rfl (by exact fun w hw=>szIntS_spec w _ (left - (Bk.bulk a5:Int)) (by omega) (by omega) (rd_carry (h1.2.2.2.2.2.1) hw) ho.2.2.2.2.2.1) ?_
  refine s8 ?_
  refine kp [1,16] ?_
  refine W_cond rfl (fun q5=>?_) (fun q5=>?_)
  ·have hb5:¬ ((Bk.bulk a6:Int)≤left - (Bk.bulk a5:Int)):=by
    intro hn
    rw [if_pos hn] at q5;simp at q5;omega
   refine s5 ?_
   refine res1 rfl (ResOK.tmp rfl) ⟨?_,rfl⟩ ms
   try simp only [bulk_pair,bulk_int,bulk_bool,bulk_str,Int.natCast_add,Int.natCast_zero] at *
   all_goals first
    | rfl
    | (rw [if_pos (by omega)]<;>(congr 1<;>omega))
    | (rw [if_neg (by omega)])
  ·have hb5:(Bk.bulk a6:Int)≤left - (Bk.bulk a5:Int):=by
    rcases Int.decLt (left - (Bk.bulk a5:Int)) (Bk.bulk a6:Int) with hn | hn
    ·omega
    ·rw [if_neg (by omega)] at q5;simp at q5
   rw [if_pos hb5]
   refine s7 ?_
   refine res1 rfl (ResOK.tmp rfl) ⟨?_,rfl⟩ ms
   try simp only [bulk_pair,bulk_int,bulk_bool,bulk_str,Int.natCast_add,Int.natCast_zero] at *
   all_goals first
    | rfl
    | (rw [if_pos (by omega)]<;>(congr 1<;>omega))
    | (rw [if_neg (by omega)])
theorem toLead_spec (w:World) (t1:T_Lead) (h1:GT.rd w [] t1) (hb:Bk.bulk t1≤1048576):Spec Tryz.prog 70 [.agg (GT.cells t1).toArray].toArray w [] (fun v M=>∃ t2:T_Lead,v=.agg (GT.cells t2).toArray∧GT.dat t2=GT.dat t1∧M=[treeH t2]):=by
 obtain ⟨⟨a11,a12⟩,a2,a3,a4,a5,a6,a7⟩:=t1
 have hbk_0:Bk.bulk (a11,a12)≤1048576:=by (try simp only [bulk_pair,bulk_int,bulk_bool,bulk_str] at hb ⊢);omega
 have hbk_4:Bk.bulk a5≤1048576:=by (try simp only [bulk_pair,bulk_int,bulk_bool,bulk_str] at hb ⊢);omega
 have hbk_5:Bk.bulk a6≤1048576:=by (try simp only [bulk_pair,bulk_int,bulk_bool,bulk_str] at hb ⊢);omega
 change Spec _ _ [Value.agg #[.int .i64 a11,.int .i64 a12,.int .i64 a2,.int .i64 a3,.int .i64 a4,a5.hdr,a6.hdr,.bool a7]].toArray w [] _
 refine Spec.intro Tryz.func70 rfl Tryz.ntmps70 rfl ?_
 refine s2 ?_
 refine bx fun bk1=>?_
 refine al fun bk2=>?_
 refine s3 ?_
 refine al fun bk3=>?_
 refine s4 ?_
 refine L_loadW rfl rfl (RdC.seg (by first | exact RdC.blk mm) 0 2 rfl) (by exact agg98.h) ?_
 refine L_callR rfl fn116.h rfl (by exact fun w hw=>toId_spec w (a11,a12) (rd_carry (h1.1) hw) hbk_0) ?_
 rintro v M1 ⟨n1t,hv,hd0,rfl⟩
 obtain ⟨n11,n12⟩:=n1t
 subst hv
 simp only [List.cons_append,List.nil_append]
 refine s1 ?_
 refine L_storeA (fo:=0) rfl rfl pk (by exact agg92.h) (Nat.le_of_ble_eq_true rfl) (by first | (simp [Value.oneCell',TL.hdr];done) | (simp [Value.oneCell',TL.hdr,Value.cells];done) | exact fun v hv=>GT.one _ v hv) (by simp only [cells_pair,cells_int,cells_bool,cells_str,cells_TL,List.take_zero,List.take_succ_cons,List.drop_zero,List.drop_succ_cons,List.set_cons_zero,List.set_cons_succ,List.length_cons,List.length_nil,List.cons_append,List.nil_append,List.append_nil,Nat.zero_add,Nat.reduceAdd];rfl) ?_
 refine s4 ?_
 refine L_load rfl rfl (by first | exact RdC.blk mm) one3.h rfl ?_
 refine s6 ?_
 refine L_load rfl rfl (by first | exact RdC.blk mm) one3.h rfl ?_
 refine s6 ?_
 refine L_load rfl rfl (by first | exact RdC.blk mm) one3.h rfl ?_
 refine s6 ?_
 refine L_load rfl rfl (by first | exact RdC.blk mm) one100.h rfl ?_
 refine L_callR rfl fn118.h rfl (by exact fun w hw=>toIdS_spec w _ (rd_carry (h1.2.2.2.2.1) hw) hbk_4) ?_
 rintro v M1 ⟨n5t,hv,hd4,rfl⟩
 subst hv
 simp only [List.cons_append,List.nil_append]
 refine s6 ?_
 refine L_load rfl rfl (by first | exact RdC.blk mm) one104.h rfl ?_
 refine L_callR rfl fn119.h rfl (by exact fun w hw=>toIntS_spec w _ (rd_carry (h1.2.2.2.2.2.1) hw) hbk_5) ?_
 rintro v M1 ⟨n6t,hv,hd5,rfl⟩
 subst hv
 simp only [List.cons_append,List.nil_append]
 refine s6 ?_
 refine L_load rfl rfl (by first | exact RdC.blk mm) one4.h rfl ?_
 refine s5 ?_
 refine L_loadW rfl rfl (by first | exact RdC.blk mm) (by exact agg114.h) ?_
 refine L_storeW rfl rfl pk (by exact agg114.h) (by rfl) (by first | (simp [Value.oneCell',TL.hdr];done) | (simp [Value.oneCell',TL.hdr,Value.cells];done) | exact fun v hv=>GT.one _ v hv) ?_
 refine s1 ?_
 refine W_conv (M':=treeH (n6t,a7)::_) (fun w h=>pairPick pk (h.addFlat (flat_bool _))) ?_
 refine W_conv (M':=treeH (n5t,n6t,a7)::_) (fun w h=>pairPick pk h) ?_
 refine W_conv (M':=treeH (a4,n5t,n6t,a7)::_) (fun w h=>tree_snd (flat_int (h1.2.2.2.1)) h) ?_
 refine W_conv (M':=treeH (a3,a4,n5t,n6t,a7)::_) (fun w h=>tree_snd (flat_int (h1.2.2.1)) h) ?_
 refine W_conv (M':=treeH (a2,a3,a4,n5t,n6t,a7)::_) (fun w h=>tree_snd (flat_int (h1.2.1)) h) ?_
 refine W_conv (M':=treeH ((n11,n12),a2,a3,a4,n5t,n6t,a7)::_) (fun w h=>pairPick pk h) ?_
 refine s1 ?_
 refine res1 rfl (ResOK.cell rfl mm (by exact agg114.h)) ⟨((n11,n12),a2,a3,a4,n5t,n6t,a7),rfl,by simp only [dat_pair,hd0,hd4,hd5],rfl⟩ ms
theorem eqLeadS_spec (w:World) (t1 t2:TL T_Lead) (h1:GT.rd w [] t1) (h2:GT.rd w [] t2):Spec Tryz.prog 37 [t1.hdr,t2.hdr].toArray w [] (IsV (.bool (eqB (GT.dat t1) (GT.dat t2)))):=by
 obtain ⟨a1,c1,e1,x1,y1⟩:=t1
 obtain ⟨a2,c2,e2,x2,y2⟩:=t2
 have hm1:x1.length≤9223372036854775807:=rd_len h1
 have hm2:x2.length≤9223372036854775807:=rd_len h2
 dsimp only [TL.hdr]
 refine Spec.intro Tryz.func37 rfl Tryz.ntmps37 rfl ?_
 refine s8 ?_
 refine L_lenS rfl rfl el30.h ?_
 refine s1 ?_
 refine L_lenS rfl rfl el30.h ?_
 refine s2 ?_
 refine kp [0,1,10] ?_
 refine W_cond rfl (fun q1=>?_) (fun q1=>?_)
 ·refine s5 ?_
  refine res1 rfl (ResOK.tmp rfl) ⟨?_,rfl⟩ ms
  refine congrArg Value.bool (Eq.symm (eqB_false.2 fun e=>?_))
  simp at q1
  exact q1 (by have:=congrArg List.length e;simp [dat_TL] at this;omega)
 ·have hl:x1.length=x2.length:=by simp at q1;omega
  refine s7 ?_
  refine W_loopC (σ:=Nat) 0 (fun (k:Nat)=>[(5,.int .i64 (k:Int))]) (fun (k:Nat)=>[]) (fun (k:Nat)=>k≤x1.length∧(x1.map GT.dat).take k=(x2.map GT.dat).take k) (fun (k:Nat)=>x1.length - k) [(0,_),(1,_)] [] ?_ sb ms ?_
  ·exact ⟨Nat.zero_le _,rfl⟩
  ·rintro k ⟨hk,ht⟩
   refine kq [0,1,5] ?_
   refine s5 ?_
   refine L_lenS rfl rfl el30.h ?_
   refine s2 ?_
   refine kp [0,1,5,14] ?_
   refine W_cond rfl (fun q4=>?_) (fun q4=>?_)
   ·have hk1:k < x1.length:=by simpa using q4
    obtain ⟨g1,o1,rfl⟩:=rd_addr h1 hk1
    obtain ⟨g2,o2,rfl⟩:=rd_addr (k:=k) h2 (show k < x2.length by omega)
    obtain ⟨u1,hu1⟩:=getEl hk1
    obtain ⟨u2,hu2⟩:=getEl (show k < x2.length by omega)
    refine s4 ?_
    refine W_D0 [26] mix (by kernel_rfl) rfl ?_
    refine s2 ?_
    refine D_indexAddr _ GC.none (OpV.t rfl) (OpV.t rfl) el30.h (fun hg=>⟨rfl,by (try dsimp only);omega⟩) ?_
    refine D_loadW GC.none (OpV.t rfl) (fun hg=>(by first | exact RdC.blk mm | exact RdC.old (Cells.el h1 rfl hu1) | exact RdC.old (Cells.el h2 rfl hu2))) (by exact agg114.h) ?_
    refine s2 ?_
    refine D_indexAddr _ GC.none (OpV.t rfl) (OpV.t rfl) el30.h (fun hg=>⟨rfl,by (try dsimp only);omega⟩) ?_
    refine D_loadW GC.none (OpV.t rfl) (fun hg=>(by first | exact RdC.blk mm | exact RdC.old (Cells.el h1 rfl hu1) | exact RdC.old (Cells.el h2 rfl hu2))) (by exact agg114.h) ?_
    refine D_callX GC.none fn80.h (OpVs.cons (OpV.t rfl) (OpVs.cons (OpV.t rfl) (OpVs.nil))) (by exact fun hg w F hF hM=>(fun w hw=>eqLead_spec w _ _ (rd_carry (h1.2.2.1 _ (List.mem_of_getElem? hu1)) hw) (rd_carry (h2.2.2.1 _ (List.mem_of_getElem? hu2)) hw)) w hF) ?_
    refine s13 ?_
    refine kp [0,1,5,26] ?_
    refine W_cond rfl (fun q6=>?_) (fun q6=>?_)
    ·refine s5 ?_
     refine res1 rfl (ResOK.tmp rfl) ⟨?_,rfl⟩ ms
     refine congrArg Value.bool (Eq.symm (eqB_false.2 fun e=>?_))
     simp at q6
     replace e:x1.map GT.dat=x2.map GT.dat:=e
     have e2:=congrArg (fun l=>l[k]?) e
     simp only [List.getElem?_map,hu1,hu2,Option.map_some,Option.some.injEq] at e2
     exact q6 (by simpa [dat_int,dat_str,dat_bool] using e2)
    ·refine s3 ?_
     refine L_binV rfl rfl rfl (bv_addR (by unfold inR;omega)) ?_
     refine s2 ?_
     refine ⟨k+1,sb,ms,?_,?_⟩
     ·exact ⟨by omega,take_succ_eq ht (by rw [List.getElem?_map,hu1];rfl) (by rw [List.getElem?_map,hu2];rfl) (by simpa [dat_int,dat_str,dat_bool] using q6)⟩
     ·(try dsimp only);omega
   ·refine W_exit ?_
    refine s5 ?_
    refine res1 rfl (ResOK.tmp rfl) ⟨?_,rfl⟩ ms
    refine congrArg Value.bool (Eq.symm (eqB_true.2 ?_))
    have hk2:x1.length≤k:=by simpa using q4
    have h3:=ht
    rw [List.take_of_length_le (by simp;omega),List.take_of_length_le (by simp;omega)] at h3
    exact h3
theorem szLeadS_spec (w:World) (t1:TL T_Lead) (left:Int) (hl:0≤left) (hm:left≤1048576) (h1:GT.rd w [] t1) (ho:Ok.ok (GT.dat t1)):Spec Tryz.prog 26 [t1.hdr,.int .i64 left].toArray w [] (IsV (.int .i64 (if (Bk.bulk t1:Int)≤left then left - (Bk.bulk t1:Int) else -1))):=by
  obtain ⟨a1,c1,e1,x1,y1⟩:=t1
  have hm1:x1.length≤9223372036854775807:=rd_len h1
  rw [bulk_TL]
  dsimp only [TL.hdr]
  refine Spec.intro Tryz.func26 rfl Tryz.ntmps26 rfl ?_
  refine s8 ?_
  refine L_lenS rfl rfl el23.h ?_
  refine L_binV rfl rfl rfl (bv_subR (by unfold inR;omega)) ?_
  refine s8 ?_
  refine kp [0,1,11] ?_
  refine W_cond rfl (fun q2=>?_) (fun q2=>?_)
  · have hb0:left - (x1.length:Int) < 0:=by simpa using q2
    refine s5 ?_
    refine res1 rfl (ResOK.tmp rfl) ⟨?_,rfl⟩ ms
    first
      | (rw [if_neg (by simp only [Int.natCast_add];omega)];done)
      | (rw [if_neg (by have:=bulks_take_le x1 (k+1);simp only [Int.natCast_add];omega)];done)
      | (have hk2:x1.length≤k:=by simpa using q5
         rw [List.take_of_length_le hk2] at ht ⊢
         rw [if_pos (by simp only [Int.natCast_add];omega)];congr 1;simp only [Int.natCast_add];omega)
  · have hb0:¬ (left - (x1.length:Int) < 0):=by simpa using q2
    refine s7 ?_
    have h0:left - (x1.length:Int)=left - (x1.length:Int) - (bulks (x1.take 0):Int):=by simp [bulks]
    rw [h0]
    refine W_loopC (σ:=Nat) 0 (fun (k:Nat)=>[(1,.int .i64 (left - (x1.length:Int) - (bulks (x1.take k):Int))),(5,.int .i64 (k:Int))]) (fun (k:Nat)=>[]) (fun (k:Nat)=>k≤x1.length∧0≤(left - (x1.length:Int) - (bulks (x1.take k):Int))) (fun (k:Nat)=>x1.length - k) [(0,_)] [] ?_ sb ms ?_
    · exact ⟨Nat.zero_le _,by simp [bulks];omega⟩
    · rintro k ⟨hk,ht⟩
      refine kq [0,1,5] ?_
      refine s5 ?_
      refine L_lenS rfl rfl el23.h ?_
      refine s2 ?_
      refine kp [0,1,5,15] ?_
      refine W_cond rfl (fun q5=>?_) (fun q5=>?_)
      · have hk1:k < x1.length:=by simpa using q5
        obtain ⟨g1,o1,rfl⟩:=rd_addr h1 hk1
        obtain ⟨u1,hu1⟩:=getEl hk1
        have hbs:=bulks_take_succ hu1
        have hble:=bulks_take_le x1 (k+1)
        refine s7 ?_
        refine L_indexAddr rfl rfl rfl el23.h rfl (by omega) ?_
        refine L_loadW rfl rfl (by first | exact RdC.blk mm | exact RdC.old (Cells.el h1 rfl hu1)) (by exact agg106.h) ?_
        refine s1 ?_
        refine L_callX rfl fn61.h rfl (by exact fun w hw=>szLead_spec w _ _ (by omega) (by omega) (rd_carry (h1.2.2.1 _ (List.mem_of_getElem? hu1)) hw) (ho.2 _ (List.mem_map.2 ⟨u1,List.mem_of_getElem? hu1,rfl⟩))) ?_
        refine s7 ?_
        refine kp [0,1,5,25] ?_
        refine W_cond rfl (fun q8=>?_) (fun q8=>?_)
        · have hb1:¬ ((Bk.bulk u1:Int)≤(left - (x1.length:Int) - (bulks (x1.take k):Int))):=by
            intro hn
            rw [if_pos hn] at q8;simp at q8;omega
          refine s5 ?_
          refine res1 rfl (ResOK.tmp rfl) ⟨?_,rfl⟩ ms
          first
            | (rw [if_neg (by simp only [Int.natCast_add];omega)];done)
            | (rw [if_neg (by have:=bulks_take_le x1 (k+1);simp only [Int.natCast_add];omega)];done)
            | (have hk2:x1.length≤k:=by simpa using q5
               rw [List.take_of_length_le hk2] at ht ⊢
               rw [if_pos (by simp only [Int.natCast_add];omega)];congr 1;simp only [Int.natCast_add];omega)
        · have hb1:(Bk.bulk u1:Int)≤(left - (x1.length:Int) - (bulks (x1.take k):Int)):=by
            rcases Int.decLt (left - (x1.length:Int) - (bulks (x1.take k):Int)) (Bk.bulk u1:Int) with hn | hn
            · omega
            · rw [if_neg (by omega)] at q8;simp at q8
          rw [if_pos hb1]
          have hnx:(left - (x1.length:Int) - (bulks (x1.take k):Int)) - (Bk.bulk u1:Int)=left - (x1.length:Int) - (bulks (x1.take (k+1)):Int):=by rw [hbs];omega
          rw [hnx]
          refine s3 ?_
          refine L_binV rfl rfl rfl (bv_addR (by unfold inR;omega)) ?_
          refine s2 ?_
          refine ⟨k+1,sb,ms,?_,?_⟩
          · exact ⟨by omega,by omega⟩
          · (try dsimp only);omega
      · refine W_exit ?_
        refine s6 ?_
        refine res1 rfl (ResOK.tmp rfl) ⟨?_,rfl⟩ ms
        first
          | (rw [if_neg (by simp only [Int.natCast_add];omega)];done)
          | (rw [if_neg (by have:=bulks_take_le x1 (k+1);simp only [Int.natCast_add];omega)];done)
          | (have hk2:x1.length≤k:=by simpa using q5
             rw [List.take_of_length_le hk2] at ht ⊢
             rw [if_pos (by simp only [Int.natCast_add];omega)];congr 1;simp only [Int.natCast_add];omega)
theorem toLeadS_spec (w:World) (t1:TL T_Lead) (h1:GT.rd w [] t1) (hb:Bk.bulk t1≤1048576):Spec Tryz.prog 31 [t1.hdr].toArray w [] (fun v M=>∃ t2:TL T_Lead,v=t2.hdr∧GT.dat t2=GT.dat t1∧M=[treeH t2]):=by
 obtain ⟨a1,c1,e1,x1,y1⟩:=t1
 rw [bulk_TL] at hb
 dsimp only [TL.hdr]
 refine Spec.intro Tryz.func31 rfl Tryz.ntmps31 rfl ?_
 refine s7 ?_
 refine L_lenS rfl rfl el23.h ?_
 refine L_make (τ:=T_Lead) (((0:Int),(0:Int)),(0:Int),(0:Int),(0:Int),(TL.nil T_Id 0),(TL.nil Int 0),false) rfl rfl rfl el30.h rfl rfl (flat_pair (flat_pair (flat_int trivial) (flat_int trivial)) (flat_pair (flat_int trivial) (flat_pair (flat_int trivial) (flat_pair (flat_int trivial) (flat_pair (flat_nil 0) (flat_pair (flat_nil 0) (flat_bool _))))))) (by omega) (by unfold maxLen;omega) (fun g=>?_)
 refine s8 ?_
 refine W_loopC (σ:=Nat×List T_Lead) (0,List.replicate x1.length (((0:Int),(0:Int)),(0:Int),(0:Int),(0:Int),(TL.nil T_Id 0),(TL.nil Int 0),false)) (fun (p:Nat×List T_Lead)=>[(4,.int .i64 (p.1:Int))]) (fun (p:Nat×List T_Lead)=>[treeH (⟨some ⟨g,0,none⟩,x1.length,114,p.2,[]⟩:TL T_Lead)]) (fun (p:Nat×List T_Lead)=>p.1≤x1.length∧p.2.length=x1.length∧(p.2.take p.1).map GT.dat=(x1.take p.1).map GT.dat) (fun (p:Nat×List T_Lead)=>x1.length - p.1) [(0,_),(3,_)] [] ?_ sb ms ?_
 ·exact ⟨Nat.zero_le _,by simp,by simp⟩
 ·rintro ⟨k,cur⟩ ⟨hk,hlen,hdat⟩
  dsimp only at hk hlen hdat
  refine kq [0,3,4] ?_
  refine s5 ?_
  refine L_lenS rfl rfl el23.h ?_
  refine s2 ?_
  refine kp [0,3,4,11] ?_
  refine W_cond rfl (fun q3=>?_) (fun q3=>?_)
  ·have hk1:k < x1.length:=by simpa using q3
   obtain ⟨g1,o1,rfl⟩:=rd_addr h1 hk1
   obtain ⟨u1,hu1⟩:=getEl hk1
   have hub:Bk.bulk u1≤1048576:=by have:=bulk_mem (List.mem_of_getElem? hu1);omega
   refine s8 ?_
   refine L_indexAddr rfl rfl rfl el23.h rfl (by omega) ?_
   refine L_loadW rfl rfl (by first | exact RdC.blk mm | exact RdC.old (Cells.el h1 rfl hu1)) (by exact agg106.h) ?_
   refine L_callR rfl fn70.h rfl (by exact fun w hw=>toLead_spec w _ (rd_carry (h1.2.2.1 _ (List.mem_of_getElem? hu1)) hw) hub) ?_
   rintro v M1 ⟨u2,hv,hd,rfl⟩
   subst hv
   simp only [List.cons_append,List.nil_append]
   refine L_indexAddr rfl rfl rfl el30.h rfl (by omega) ?_
   obtain ⟨u0,hu0⟩:=getEl (show k < cur.length by omega)
   refine L_storeEl u2 rfl rfl pk rfl hu0 rfl pk (.inl agg114.h) ?_
   refine s3 ?_
   refine L_binV rfl rfl rfl (bv_addR (by unfold inR;omega)) ?_
   refine s2 ?_
   refine ⟨(k+1,cur.set k u2),sb,ms,?_,?_⟩
   ·exact ⟨by dsimp only;omega,by simpa using hlen,map_take_set GT.dat GT.dat hdat (by omega) hu1 hd⟩
   ·dsimp only;omega
  ·refine W_exit ?_
   refine s6 ?_
   refine res1 rfl (ResOK.tmp rfl) ⟨⟨some ⟨g,0,none⟩,x1.length,114,cur,[]⟩,?_,?_,rfl⟩ ms
   ·show _=Value.slice _ cur.length _
    rw [hlen]
   ·have hk2:x1.length≤k:=by simpa using q3
    rw [List.take_of_length_le (by omega),List.take_of_length_le (by omega)] at hdat
    exact hdat
end Go.Proofs.SL
namespace Go.Proofs.SL
open Go
set_option maxHeartbeats 2000000
instance fn36:FnF Tryz.prog 36:=⟨_,Tryz.func36,by kernel_rfl,rfl⟩
instance fn37:FnF Tryz.prog 37:=⟨_,Tryz.func37,by kernel_rfl,rfl⟩
instance fld25_2:FldF Tryz.prog 25 2 2:=⟨by kernel_rfl⟩
instance one22:OneF Tryz.prog 22:=⟨by kernel_rfl⟩
instance fn25:FnF Tryz.prog 25:=⟨_,Tryz.func25,by kernel_rfl,rfl⟩
instance fld25_3:FldF Tryz.prog 25 3 3:=⟨by kernel_rfl⟩
instance one23:OneF Tryz.prog 23:=⟨by kernel_rfl⟩
instance fn26:FnF Tryz.prog 26:=⟨_,Tryz.func26,by kernel_rfl,rfl⟩
instance fld25_0:FldF Tryz.prog 25 0 0:=⟨by kernel_rfl⟩
instance fld25_1:FldF Tryz.prog 25 1 1:=⟨by kernel_rfl⟩
instance fn30:FnF Tryz.prog 30:=⟨_,Tryz.func30,by kernel_rfl,rfl⟩
instance fn31:FnF Tryz.prog 31:=⟨_,Tryz.func31,by kernel_rfl,rfl⟩
instance fn11:FnF Tryz.prog 11:=⟨_,Tryz.func11,by kernel_rfl,rfl⟩
instance el47:ElF Tryz.prog 47 25 4 64 [.int .i64 0,.int .i64 0,.slice none 0 0,.slice none 0 0]:=⟨by kernel_rfl⟩
instance agg25:AggF Tryz.prog 25 4:=⟨by kernel_rfl⟩
instance fn6:FnF Tryz.prog 6:=⟨_,Tryz.func6,by kernel_rfl,rfl⟩
instance fn8:FnF Tryz.prog 8:=⟨_,Tryz.func8,by kernel_rfl,rfl⟩
theorem eqENode_spec (w:World) (t1 t2:T_ENode) (h1:GT.rd w [] t1) (h2:GT.rd w [] t2):Spec Tryz.prog 11 [.agg (GT.cells t1).toArray,.agg (GT.cells t2).toArray].toArray w [] (IsV (.bool (eqB (GT.dat t1) (GT.dat t2)))):=by
 obtain ⟨a1,a2,a3,a4⟩:=t1
 obtain ⟨b1,b2,b3,b4⟩:=t2
 change Spec _ _ [Value.agg #[.int .i64 a1,.int .i64 a2,a3.hdr,a4.hdr],Value.agg #[.int .i64 b1,.int .i64 b2,b3.hdr,b4.hdr]].toArray w [] _
 refine Spec.intro Tryz.func11 rfl Tryz.ntmps11 rfl ?_
 refine s2 ?_
 refine bx fun bk2=>?_
 refine bx fun bk3=>?_
 refine s6 ?_
 refine L_load rfl rfl (by first | exact RdC.blk mm) one3.h rfl ?_
 refine s1 ?_
 refine L_load rfl rfl (by first | exact RdC.blk mm) one3.h rfl ?_
 refine s2 ?_
 refine kp [2,3,9] ?_
 refine W_cond rfl (fun q1=>?_) (fun q1=>?_)
 ·refine s5 ?_
  refine res1 rfl (ResOK.tmp rfl) ⟨?_,rfl⟩ ms
  clear h1 h2
  exact eqy
 ·refine s5 ?_
  refine L_load rfl rfl (by first | exact RdC.blk mm) one3.h rfl ?_
  refine s1 ?_
  refine L_load rfl rfl (by first | exact RdC.blk mm) one3.h rfl ?_
  refine s2 ?_
  refine kp [2,3,14] ?_
  refine W_cond rfl (fun q3=>?_) (fun q3=>?_)
  ·refine s5 ?_
   refine res1 rfl (ResOK.tmp rfl) ⟨?_,rfl⟩ ms
   clear h1 h2
   exact eqy
  ·refine s5 ?_
   refine L_load rfl rfl (by first | exact RdC.blk mm) one29.h rfl ?_
   refine s1 ?_
   refine L_load rfl rfl (by first | exact RdC.blk mm) one29.h rfl ?_
   refine L_callX rfl fn36.h rfl (by exact fun w hw=>eqInstS_spec w _ _ (rd_carry (h1.2.2.1) hw) (rd_carry (h2.2.2.1) hw)) ?_
   refine s2 ?_
   refine kp [2,3,20] ?_
   refine W_cond rfl (fun q5=>?_) (fun q5=>?_)
   ·refine s5 ?_
    refine res1 rfl (ResOK.tmp rfl) ⟨?_,rfl⟩ ms
    clear h1 h2
    exact eqy
   ·refine s5 ?_
    refine L_load rfl rfl (by first | exact RdC.blk mm) one30.h rfl ?_
    refine s1 ?_
    refine L_load rfl rfl (by first | exact RdC.blk mm) one30.h rfl ?_
    refine L_callX rfl fn37.h rfl (by exact fun w hw=>eqLeadS_spec w _ _ (rd_carry (h1.2.2.2) hw) (rd_carry (h2.2.2.2) hw)) ?_
    refine s2 ?_
    refine kp [26] ?_
    refine W_cond rfl (fun q7=>?_) (fun q7=>?_)
    ·refine s5 ?_
     refine res1 rfl (ResOK.tmp rfl) ⟨?_,rfl⟩ ms
     clear h1 h2
     exact eqy
    ·refine s6 ?_
     refine res1 rfl (ResOK.tmp rfl) ⟨?_,rfl⟩ ms
     clear h1 h2
     exact eqy
theorem szENode_spec (w:World) (t1:T_ENode) (left:Int) (hl:0≤left) (hm:left≤1048576) (h1:GT.rd w [] t1) (ho:Ok.ok (GT.dat t1)):Spec Tryz.prog 6 [.agg (GT.cells t1).toArray,.int .i64 left].toArray w [] (IsV (.int .i64 (if (Bk.bulk t1:Int)≤left then left - (Bk.bulk t1:Int) else -1))):=by
 obtain ⟨a1,a2,a3,a4⟩:=t1
 change Spec _ _ [Value.agg #[.int .i64 a1,.int .i64 a2,a3.hdr,a4.hdr],.int .i64 left].toArray w [] _
 refine Spec.intro Tryz.func6 rfl Tryz.ntmps6 rfl ?_
 refine s2 ?_
 refine bx fun bk2=>?_
 refine s5 ?_
 refine L_load rfl rfl (by first | exact RdC.blk mm) one22.h rfl ?_
 refine s1 ?_
 refine L_callX rfl fn25.h rfl (by exact fun w hw=>szInstS_spec w _ (left) (by omega) (by omega) (rd_carry (h1.2.2.1) hw) ho.2.2.1) ?_
 refine s8 ?_
 refine kp [1,2,10] ?_
 refine W_cond rfl (fun q2=>?_) (fun q2=>?_)
 ·have hb2:¬ ((Bk.bulk a3:Int)≤left):=by
   intro hn
   rw [if_pos hn] at q2;simp at q2;omega
  refine s5 ?_
  refine res1 rfl (ResOK.tmp rfl) ⟨?_,rfl⟩ ms
  try simp only [bulk_pair,bulk_int,bulk_bool,bulk_str,Int.natCast_add,Int.natCast_zero] at *
  all_goals first
   | rfl
   | (rw [if_pos (by omega)]<;>(congr 1<;>omega))
   | (rw [if_neg (by omega)])
 ·have hb2:(Bk.bulk a3:Int)≤left:=by
   rcases Int.decLt (left) (Bk.bulk a3:Int) with hn | hn
   ·omega
   ·rw [if_neg (by omega)] at q2;simp at q2
  rw [if_pos hb2]
  refine s4 ?_
  refine L_load rfl rfl (by first | exact RdC.blk mm) one23.h rfl ?_
  refine s1 ?_
  refine L_callX rfl fn26.h rfl (by exact fun w hw=>szLeadS_spec w _ (left - (Bk.bulk a3:Int)) (by omega) (by omega) (rd_carry (h1.2.2.2) hw) ho.2.2.2) ?_
  refine s8 ?_
  refine kp [1,16] ?_
  refine W_cond rfl (fun q5=>?_) (fun q5=>?_)
  ·have hb3:¬ ((Bk.bulk a4:Int)≤left - (Bk.bulk a3:Int)):=by
    intro hn
    rw [if_pos hn] at q5;simp at q5;omega
   refine s5 ?_
   refine res1 rfl (ResOK.tmp rfl) ⟨?_,rfl⟩ ms
   try simp only [bulk_pair,bulk_int,bulk_bool,bulk_str,Int.natCast_add,Int.natCast_zero] at *
   all_goals first
    | rfl
    | (rw [if_pos (by omega)]<;>(congr 1<;>omega))
    | (rw [if_neg (by omega)])
  ·have hb3:(Bk.bulk a4:Int)≤left - (Bk.bulk a3:Int):=by
    rcases Int.decLt (left - (Bk.bulk a3:Int)) (Bk.bulk a4:Int) with hn | hn
    ·omega
    ·rw [if_neg (by omega)] at q5;simp at q5
   rw [if_pos hb3]
   refine s7 ?_
   refine res1 rfl (ResOK.tmp rfl) ⟨?_,rfl⟩ ms
   try simp only [bulk_pair,bulk_int,bulk_bool,bulk_str,Int.natCast_add,Int.natCast_zero] at *
   all_goals first
    | rfl
    | (rw [if_pos (by omega)]<;>(congr 1<;>omega))
    | (rw [if_neg (by omega)])
theorem toENode_spec (w:World) (t1:T_ENode) (h1:GT.rd w [] t1) (hb:Bk.bulk t1≤1048576):Spec Tryz.prog 8 [.agg (GT.cells t1).toArray].toArray w [] (fun v M=>∃ t2:T_ENode,v=.agg (GT.cells t2).toArray∧GT.dat t2=GT.dat t1∧M=[treeH t2]):=by
 obtain ⟨a1,a2,a3,a4⟩:=t1
 have hbk_2:Bk.bulk a3≤1048576:=by (try simp only [bulk_pair,bulk_int,bulk_bool,bulk_str] at hb ⊢);omega
 have hbk_3:Bk.bulk a4≤1048576:=by (try simp only [bulk_pair,bulk_int,bulk_bool,bulk_str] at hb ⊢);omega
 change Spec _ _ [Value.agg #[.int .i64 a1,.int .i64 a2,a3.hdr,a4.hdr]].toArray w [] _
 refine Spec.intro Tryz.func8 rfl Tryz.ntmps8 rfl ?_
 refine s2 ?_
 refine bx fun bk1=>?_
 refine al fun bk2=>?_
 refine s3 ?_
 refine al fun bk3=>?_
 refine s4 ?_
 refine L_load rfl rfl (by first | exact RdC.blk mm) one3.h rfl ?_
 refine s6 ?_
 refine L_load rfl rfl (by first | exact RdC.blk mm) one3.h rfl ?_
 refine s6 ?_
 refine L_load rfl rfl (by first | exact RdC.blk mm) one22.h rfl ?_
 refine L_callR rfl fn30.h rfl (by exact fun w hw=>toInstS_spec w _ (rd_carry (h1.2.2.1) hw) hbk_2) ?_
 rintro v M1 ⟨n3t,hv,hd2,rfl⟩
 subst hv
 simp only [List.cons_append,List.nil_append]
 refine s6 ?_
 refine L_load rfl rfl (by first | exact RdC.blk mm) one23.h rfl ?_
 refine L_callR rfl fn31.h rfl (by exact fun w hw=>toLeadS_spec w _ (rd_carry (h1.2.2.2) hw) hbk_3) ?_
 rintro v M1 ⟨n4t,hv,hd3,rfl⟩
 subst hv
 simp only [List.cons_append,List.nil_append]
 refine s5 ?_
 refine L_loadW rfl rfl (by first | exact RdC.blk mm) (by exact agg32.h) ?_
 refine L_storeW rfl rfl pk (by exact agg32.h) (by rfl) (by first | (simp [Value.oneCell',TL.hdr];done) | (simp [Value.oneCell',TL.hdr,Value.cells];done) | exact fun v hv=>GT.one _ v hv) ?_
 refine s1 ?_
 refine W_conv (M':=treeH n4t::_) (fun w h=>frontPick pk h) ?_
 refine W_conv (M':=treeH (n3t,n4t)::_) (fun w h=>pairPick pk h) ?_
 refine W_conv (M':=treeH (a2,n3t,n4t)::_) (fun w h=>tree_snd (flat_int (h1.2.1)) h) ?_
 refine W_conv (M':=treeH (a1,a2,n3t,n4t)::_) (fun w h=>tree_snd (flat_int (h1.1)) h) ?_
 refine s1 ?_
 refine res1 rfl (ResOK.cell rfl mm (by exact agg32.h)) ⟨(a1,a2,n3t,n4t),rfl,by simp only [dat_pair,hd2,hd3],rfl⟩ ms
theorem eqENodeS_spec (w:World) (t1 t2:TL T_ENode) (h1:GT.rd w [] t1) (h2:GT.rd w [] t2):Spec Tryz.prog 58 [t1.hdr,t2.hdr].toArray w [] (IsV (.bool (eqB (GT.dat t1) (GT.dat t2)))):=by
 obtain ⟨a1,c1,e1,x1,y1⟩:=t1
 obtain ⟨a2,c2,e2,x2,y2⟩:=t2
 have hm1:x1.length≤9223372036854775807:=rd_len h1
 have hm2:x2.length≤9223372036854775807:=rd_len h2
 dsimp only [TL.hdr]
 refine Spec.intro Tryz.func58 rfl Tryz.ntmps58 rfl ?_
 refine s8 ?_
 refine L_lenS rfl rfl el53.h ?_
 refine s1 ?_
 refine L_lenS rfl rfl el53.h ?_
 refine s2 ?_
 refine kp [0,1,10] ?_
 refine W_cond rfl (fun q1=>?_) (fun q1=>?_)
 ·refine s5 ?_
  refine res1 rfl (ResOK.tmp rfl) ⟨?_,rfl⟩ ms
  refine congrArg Value.bool (Eq.symm (eqB_false.2 fun e=>?_))
  simp at q1
  exact q1 (by have:=congrArg List.length e;simp [dat_TL] at this;omega)
 ·have hl:x1.length=x2.length:=by simp at q1;omega
  refine s7 ?_
  refine W_loopC (σ:=Nat) 0 (fun (k:Nat)=>[(5,.int .i64 (k:Int))]) (fun (k:Nat)=>[]) (fun (k:Nat)=>k≤x1.length∧(x1.map GT.dat).take k=(x2.map GT.dat).take k) (fun (k:Nat)=>x1.length - k) [(0,_),(1,_)] [] ?_ sb ms ?_
  ·exact ⟨Nat.zero_le _,rfl⟩
  ·rintro k ⟨hk,ht⟩
   refine kq [0,1,5] ?_
   refine s5 ?_
   refine L_lenS rfl rfl el53.h ?_
   refine s2 ?_
   refine kp [0,1,5,14] ?_
   refine W_cond rfl (fun q4=>?_) (fun q4=>?_)
   ·have hk1:k < x1.length:=by simpa using q4
    obtain ⟨g1,o1,rfl⟩:=rd_addr h1 hk1
    obtain ⟨g2,o2,rfl⟩:=rd_addr (k:=k) h2 (show k < x2.length by omega)
    obtain ⟨u1,hu1⟩:=getEl hk1
    obtain ⟨u2,hu2⟩:=getEl (show k < x2.length by omega)
    refine s4 ?_
    refine W_D0 [26] mix (by kernel_rfl) rfl ?_
    refine s2 ?_
    refine D_indexAddr _ GC.none (OpV.t rfl) (OpV.t rfl) el53.h (fun hg=>⟨rfl,by (try dsimp only);omega⟩) ?_
    refine D_loadW GC.none (OpV.t rfl) (fun hg=>(by first | exact RdC.blk mm | exact RdC.old (Cells.el h1 rfl hu1) | exact RdC.old (Cells.el h2 rfl hu2))) (by exact agg32.h) ?_
    refine s2 ?_
    refine D_indexAddr _ GC.none (OpV.t rfl) (OpV.t rfl) el53.h (fun hg=>⟨rfl,by (try dsimp only);omega⟩) ?_
    refine D_loadW GC.none (OpV.t rfl) (fun hg=>(by first | exact RdC.blk mm | exact RdC.old (Cells.el h1 rfl hu1) | exact RdC.old (Cells.el h2 rfl hu2))) (by exact agg32.h) ?_
    refine D_callX GC.none fn11.h (OpVs.cons (OpV.t rfl) (OpVs.cons (OpV.t rfl) (OpVs.nil))) (by exact fun hg w F hF hM=>(fun w hw=>eqENode_spec w _ _ (rd_carry (h1.2.2.1 _ (List.mem_of_getElem? hu1)) hw) (rd_carry (h2.2.2.1 _ (List.mem_of_getElem? hu2)) hw)) w hF) ?_
    refine s13 ?_
    refine kp [0,1,5,26] ?_
    refine W_cond rfl (fun q6=>?_) (fun q6=>?_)
    ·refine s5 ?_
     refine res1 rfl (ResOK.tmp rfl) ⟨?_,rfl⟩ ms
     refine congrArg Value.bool (Eq.symm (eqB_false.2 fun e=>?_))
     simp at q6
     replace e:x1.map GT.dat=x2.map GT.dat:=e
     have e2:=congrArg (fun l=>l[k]?) e
     simp only [List.getElem?_map,hu1,hu2,Option.map_some,Option.some.injEq] at e2
     exact q6 (by simpa [dat_int,dat_str,dat_bool] using e2)
    ·refine s3 ?_
     refine L_binV rfl rfl rfl (bv_addR (by unfold inR;omega)) ?_
     refine s2 ?_
     refine ⟨k+1,sb,ms,?_,?_⟩
     ·exact ⟨by omega,take_succ_eq ht (by rw [List.getElem?_map,hu1];rfl) (by rw [List.getElem?_map,hu2];rfl) (by simpa [dat_int,dat_str,dat_bool] using q6)⟩
     ·(try dsimp only);omega
   ·refine W_exit ?_
    refine s5 ?_
    refine res1 rfl (ResOK.tmp rfl) ⟨?_,rfl⟩ ms
    refine congrArg Value.bool (Eq.symm (eqB_true.2 ?_))
    have hk2:x1.length≤k:=by simpa using q4
    have h3:=ht
    rw [List.take_of_length_le (by simp;omega),List.take_of_length_le (by simp;omega)] at h3
    exact h3
theorem szENodeS_spec (w:World) (t1:TL T_ENode) (left:Int) (hl:0≤left) (hm:left≤1048576) (h1:GT.rd w [] t1) (ho:Ok.ok (GT.dat t1)):Spec Tryz.prog 44 [t1.hdr,.int .i64 left].toArray w [] (IsV (.int .i64 (if (Bk.bulk t1:Int)≤left then left - (Bk.bulk t1:Int) else -1))):=by
  obtain ⟨a1,c1,e1,x1,y1⟩:=t1
  have hm1:x1.length≤9223372036854775807:=rd_len h1
  rw [bulk_TL]
  dsimp only [TL.hdr]
  refine Spec.intro Tryz.func44 rfl Tryz.ntmps44 rfl ?_
  refine s8 ?_
  refine L_lenS rfl rfl el47.h ?_
  refine L_binV rfl rfl rfl (bv_subR (by unfold inR;omega)) ?_
  refine s8 ?_
  refine kp [0,1,11] ?_
  refine W_cond rfl (fun q2=>?_) (fun q2=>?_)
  · have hb0:left - (x1.length:Int) < 0:=by simpa using q2
    refine s5 ?_
    refine res1 rfl (ResOK.tmp rfl) ⟨?_,rfl⟩ ms
    first
      | (rw [if_neg (by simp only [Int.natCast_add];omega)];done)
      | (rw [if_neg (by have:=bulks_take_le x1 (k+1);simp only [Int.natCast_add];omega)];done)
      | (have hk2:x1.length≤k:=by simpa using q5
         rw [List.take_of_length_le hk2] at ht ⊢
         rw [if_pos (by simp only [Int.natCast_add];omega)];congr 1;simp only [Int.natCast_add];omega)
  · have hb0:¬ (left - (x1.length:Int) < 0):=by simpa using q2
    refine s7 ?_
    have h0:left - (x1.length:Int)=left - (x1.length:Int) - (bulks (x1.take 0):Int):=by simp [bulks]
    rw [h0]
    refine W_loopC (σ:=Nat) 0 (fun (k:Nat)=>[(1,.int .i64 (left - (x1.length:Int) - (bulks (x1.take k):Int))),(5,.int .i64 (k:Int))]) (fun (k:Nat)=>[]) (fun (k:Nat)=>k≤x1.length∧0≤(left - (x1.length:Int) - (bulks (x1.take k):Int))) (fun (k:Nat)=>x1.length - k) [(0,_)] [] ?_ sb ms ?_
    · exact ⟨Nat.zero_le _,by simp [bulks];omega⟩
    · rintro k ⟨hk,ht⟩
      refine kq [0,1,5] ?_
      refine s5 ?_
      refine L_lenS rfl rfl el47.h ?_
      refine s2 ?_
      refine kp [0,1,5,15] ?_
      refine W_cond rfl (fun q5=>?_) (fun q5=>?_)
      · have hk1:k < x1.length:=by simpa using q5
        obtain ⟨g1,o1,rfl⟩:=rd_addr h1 hk1
        obtain ⟨u1,hu1⟩:=getEl hk1
        have hbs:=bulks_take_succ hu1
        have hble:=bulks_take_le x1 (k+1)
        refine s7 ?_
        refine L_indexAddr rfl rfl rfl el47.h rfl (by omega) ?_
        refine L_loadW rfl rfl (by first | exact RdC.blk mm | exact RdC.old (Cells.el h1 rfl hu1)) (by exact agg25.h) ?_
        refine s1 ?_
        refine L_callX rfl fn6.h rfl (by exact fun w hw=>szENode_spec w _ _ (by omega) (by omega) (rd_carry (h1.2.2.1 _ (List.mem_of_getElem? hu1)) hw) (ho.2 _ (List.mem_map.2 ⟨u1,List.mem_of_getElem? hu1,rfl⟩))) ?_
        refine s7 ?_
        refine kp [0,1,5,25] ?_
        refine W_cond rfl (fun q8=>?_) (fun q8=>?_)
        · have hb1:¬ ((Bk.bulk u1:Int)≤(left - (x1.length:Int) - (bulks (x1.take k):Int))):=by
            intro hn
            rw [if_pos hn] at q8;simp at q8;omega
          refine s5 ?_
          refine res1 rfl (ResOK.tmp rfl) ⟨?_,rfl⟩ ms
          first
            | (rw [if_neg (by simp only [Int.natCast_add];omega)];done)
            | (rw [if_neg (by have:=bulks_take_le x1 (k+1);simp only [Int.natCast_add];omega)];done)
            | (have hk2:x1.length≤k:=by simpa using q5
               rw [List.take_of_length_le hk2] at ht ⊢
               rw [if_pos (by simp only [Int.natCast_add];omega)];congr 1;simp only [Int.natCast_add];omega)
        · have hb1:(Bk.bulk u1:Int)≤(left - (x1.length:Int) - (bulks (x1.take k):Int)):=by
            rcases Int.decLt (left - (x1.length:Int) - (bulks (x1.take k):Int)) (Bk.bulk u1:Int) with hn | hn
            · omega
            · rw [if_neg (by omega)] at q8;simp at q8
          rw [if_pos hb1]
          have hnx:(left - (x1.length:Int) - (bulks (x1.take k):Int)) - (Bk.bulk u1:Int)=left - (x1.length:Int) - (bulks (x1.take (k+1)):Int):=by rw [hbs];omega
          rw [hnx]
          refine s3 ?_
          refine L_binV rfl rfl rfl (bv_addR (by unfold inR;omega)) ?_
          refine s2 ?_
          refine ⟨k+1,sb,ms,?_,?_⟩
          · exact ⟨by omega,by omega⟩
          · (try dsimp only);omega
      · refine W_exit ?_
        refine s6 ?_
        refine res1 rfl (ResOK.tmp rfl) ⟨?_,rfl⟩ ms
        first
          | (rw [if_neg (by simp only [Int.natCast_add];omega)];done)
          | (rw [if_neg (by have:=bulks_take_le x1 (k+1);simp only [Int.natCast_add];omega)];done)
          | (have hk2:x1.length≤k:=by simpa using q5
             rw [List.take_of_length_le hk2] at ht ⊢
             rw [if_pos (by simp only [Int.natCast_add];omega)];congr 1;simp only [Int.natCast_add];omega)
theorem toENodeS_spec (w:World) (t1:TL T_ENode) (h1:GT.rd w [] t1) (hb:Bk.bulk t1≤1048576):Spec Tryz.prog 50 [t1.hdr].toArray w [] (fun v M=>∃ t2:TL T_ENode,v=t2.hdr∧GT.dat t2=GT.dat t1∧M=[treeH t2]):=by
 obtain ⟨a1,c1,e1,x1,y1⟩:=t1
 rw [bulk_TL] at hb
 dsimp only [TL.hdr]
 refine Spec.intro Tryz.func50 rfl Tryz.ntmps50 rfl ?_
 refine s7 ?_
 refine L_lenS rfl rfl el47.h ?_
 refine L_make (τ:=T_ENode) ((0:Int),(0:Int),(TL.nil T_Inst 0),(TL.nil T_Lead 0)) rfl rfl rfl el53.h rfl rfl (flat_pair (flat_int trivial) (flat_pair (flat_int trivial) (flat_pair (flat_nil 0) (flat_nil 0)))) (by omega) (by unfold maxLen;omega) (fun g=>?_)
 refine s8 ?_
 refine W_loopC (σ:=Nat×List T_ENode) (0,List.replicate x1.length ((0:Int),(0:Int),(TL.nil T_Inst 0),(TL.nil T_Lead 0))) (fun (p:Nat×List T_ENode)=>[(4,.int .i64 (p.1:Int))]) (fun (p:Nat×List T_ENode)=>[treeH (⟨some ⟨g,0,none⟩,x1.length,32,p.2,[]⟩:TL T_ENode)]) (fun (p:Nat×List T_ENode)=>p.1≤x1.length∧p.2.length=x1.length∧(p.2.take p.1).map GT.dat=(x1.take p.1).map GT.dat) (fun (p:Nat×List T_ENode)=>x1.length - p.1) [(0,_),(3,_)] [] ?_ sb ms ?_
 ·exact ⟨Nat.zero_le _,by simp,by simp⟩
 ·rintro ⟨k,cur⟩ ⟨hk,hlen,hdat⟩
  dsimp only at hk hlen hdat
  refine kq [0,3,4] ?_
  refine s5 ?_
  refine L_lenS rfl rfl el47.h ?_
  refine s2 ?_
  refine kp [0,3,4,11] ?_
  refine W_cond rfl (fun q3=>?_) (fun q3=>?_)
  ·have hk1:k < x1.length:=by simpa using q3
   obtain ⟨g1,o1,rfl⟩:=rd_addr h1 hk1
   obtain ⟨u1,hu1⟩:=getEl hk1
   have hub:Bk.bulk u1≤1048576:=by have:=bulk_mem (List.mem_of_getElem? hu1);omega
   refine s8 ?_
   refine L_indexAddr rfl rfl rfl el47.h rfl (by omega) ?_
   refine L_loadW rfl rfl (by first | exact RdC.blk mm | exact RdC.old (Cells.el h1 rfl hu1)) (by exact agg25.h) ?_
   refine L_callR rfl fn8.h rfl (by exact fun w hw=>toENode_spec w _ (rd_carry (h1.2.2.1 _ (List.mem_of_getElem? hu1)) hw) hub) ?_
   rintro v M1 ⟨u2,hv,hd,rfl⟩
   subst hv
   simp only [List.cons_append,List.nil_append]
   refine L_indexAddr rfl rfl rfl el53.h rfl (by omega) ?_
   obtain ⟨u0,hu0⟩:=getEl (show k < cur.length by omega)
   refine L_storeEl u2 rfl rfl pk rfl hu0 rfl pk (.inl agg32.h) ?_
   refine s3 ?_
   refine L_binV rfl rfl rfl (bv_addR (by unfold inR;omega)) ?_
   refine s2 ?_
   refine ⟨(k+1,cur.set k u2),sb,ms,?_,?_⟩
   ·exact ⟨by dsimp only;omega,by simpa using hlen,map_take_set GT.dat GT.dat hdat (by omega) hu1 hd⟩
   ·dsimp only;omega
  ·refine W_exit ?_
   refine s6 ?_
   refine res1 rfl (ResOK.tmp rfl) ⟨⟨some ⟨g,0,none⟩,x1.length,32,cur,[]⟩,?_,?_,rfl⟩ ms
   ·show _=Value.slice _ cur.length _
    rw [hlen]
   ·have hk2:x1.length≤k:=by simpa using q3
    rw [List.take_of_length_le (by omega),List.take_of_length_le (by omega)] at hdat
    exact hdat
end Go.Proofs.SL
