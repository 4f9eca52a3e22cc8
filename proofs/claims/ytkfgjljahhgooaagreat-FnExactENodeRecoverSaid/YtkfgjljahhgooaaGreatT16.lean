/- The texts of the proof, part 16: the base, walks of functions, plain Lean. -/
import Derived.Test.YtkfgjljahhgooaaGreatRows
import Derived.Test.YtkfgjljahhgooaaGreatT13
import Derived.Test.YtkfgjljahhgooaaGreatT15
import Derived.Test.YtkfgjljahhgooaaGreatT5
namespace Go.Proofs.SL
open Go
set_option maxHeartbeats 2000000
instance fn146:FnF Tryz.prog 146:=⟨_,Tryz.func146,by kernel_rfl,rfl⟩
instance fn183:FnF Tryz.prog 183:=⟨_,Tryz.func183,by kernel_rfl,rfl⟩
instance fld145_4:FldF Tryz.prog 145 4 5:=⟨by kernel_rfl⟩
instance fld145_5:FldF Tryz.prog 145 5 6:=⟨by kernel_rfl⟩
instance fn180:FnF Tryz.prog 180:=⟨_,Tryz.func180,by kernel_rfl,rfl⟩
instance fld145_0:FldF Tryz.prog 145 0 0:=⟨by kernel_rfl⟩
instance fld145_1:FldF Tryz.prog 145 1 2:=⟨by kernel_rfl⟩
instance fld145_2:FldF Tryz.prog 145 2 3:=⟨by kernel_rfl⟩
instance fld145_3:FldF Tryz.prog 145 3 4:=⟨by kernel_rfl⟩
instance fn182:FnF Tryz.prog 182:=⟨_,Tryz.func182,by kernel_rfl,rfl⟩
instance fld145_6:FldF Tryz.prog 145 6 7:=⟨by kernel_rfl⟩
instance fn143:FnF Tryz.prog 143:=⟨_,Tryz.func143,by kernel_rfl,rfl⟩
instance el54:ElF Tryz.prog 54 145 8 96 [.int .i64 0,.int .i64 0,.int .i64 0,.int .i64 0,.int .i64 0,.slice none 0 0,.slice none 0 0,.bool false]:=⟨by kernel_rfl⟩
instance agg145:AggF Tryz.prog 145 8:=⟨by kernel_rfl⟩
instance fn139:FnF Tryz.prog 139:=⟨_,Tryz.func139,by kernel_rfl,rfl⟩
instance fn141:FnF Tryz.prog 141:=⟨_,Tryz.func141,by kernel_rfl,rfl⟩
instance fn147:FnF Tryz.prog 147:=⟨_,Tryz.func147,by kernel_rfl,rfl⟩
theorem eqLead_spec (w:World) (t1 t2:T_Lead) (h1:GT.rd w [] t1) (h2:GT.rd w [] t2):Spec Tryz.prog 143 [.agg (GT.cells t1).toArray,.agg (GT.cells t2).toArray].toArray w [] (IsV (.bool (eqB (GT.dat t1) (GT.dat t2)))):=by
 obtain ⟨⟨a11,a12⟩,a2,a3,a4,a5,a6,a7⟩:=t1
 obtain ⟨⟨b11,b12⟩,b2,b3,b4,b5,b6,b7⟩:=t2
 change Spec _ _ [Value.agg #[.int .i64 a11,.int .i64 a12,.int .i64 a2,.int .i64 a3,.int .i64 a4,a5.hdr,a6.hdr,.bool a7],Value.agg #[.int .i64 b11,.int .i64 b12,.int .i64 b2,.int .i64 b3,.int .i64 b4,b5.hdr,b6.hdr,.bool b7]].toArray w [] _
 refine Spec.intro Tryz.func143 rfl Tryz.ntmps143 rfl ?_
 refine s2 ?_
 refine bx fun bk2=>?_
 refine bx fun bk3=>?_
 refine s6 ?_
 refine L_loadW rfl rfl (RdC.seg (by first | exact RdC.blk mm) 0 2 rfl) (by exact agg29.h) ?_
 refine s1 ?_
 refine L_loadW rfl rfl (RdC.seg (by first | exact RdC.blk mm) 0 2 rfl) (by exact agg29.h) ?_
 refine L_callX rfl fn144.h rfl (by exact fun w hw=>eqId_spec w (a11,a12) (b11,b12) (rd_carry (h1.1) hw) (rd_carry (h2.1) hw)) ?_
 refine s2 ?_
 refine kp [2,3,10] ?_
 refine W_cond rfl (fun q1=>?_) (fun q1=>?_)
 ·refine s5 ?_
  refine res1 rfl (ResOK.tmp rfl) ⟨?_,rfl⟩ ms
  clear h1 h2
  exact eqx
 ·refine s5 ?_
  refine L_load rfl rfl (by first | exact RdC.blk mm) one3.h rfl ?_
  refine s1 ?_
  refine L_load rfl rfl (by first | exact RdC.blk mm) one3.h rfl ?_
  refine s2 ?_
  refine kp [2,3,15] ?_
  refine W_cond rfl (fun q3=>?_) (fun q3=>?_)
  ·refine s5 ?_
   refine res1 rfl (ResOK.tmp rfl) ⟨?_,rfl⟩ ms
   clear h1 h2
   exact eqx
  ·refine s5 ?_
   refine L_load rfl rfl (by first | exact RdC.blk mm) one3.h rfl ?_
   refine s1 ?_
   refine L_load rfl rfl (by first | exact RdC.blk mm) one3.h rfl ?_
   refine s2 ?_
   refine kp [2,3,20] ?_
   refine W_cond rfl (fun q5=>?_) (fun q5=>?_)
   ·refine s5 ?_
    refine res1 rfl (ResOK.tmp rfl) ⟨?_,rfl⟩ ms
    clear h1 h2
    exact eqx
   ·refine s5 ?_
    refine L_load rfl rfl (by first | exact RdC.blk mm) one3.h rfl ?_
    refine s1 ?_
    refine L_load rfl rfl (by first | exact RdC.blk mm) one3.h rfl ?_
    refine s2 ?_
    refine kp [2,3,25] ?_
    refine W_cond rfl (fun q7=>?_) (fun q7=>?_)
    ·refine s5 ?_
     refine res1 rfl (ResOK.tmp rfl) ⟨?_,rfl⟩ ms
     clear h1 h2
     exact eqx
    ·refine s5 ?_
     refine L_load rfl rfl (by first | exact RdC.blk mm) one33.h rfl ?_
     refine s1 ?_
     refine L_load rfl rfl (by first | exact RdC.blk mm) one33.h rfl ?_
     refine L_callX rfl fn145.h rfl (by exact fun w hw=>eqIdS_spec w _ _ (rd_carry (h1.2.2.2.2.1) hw) (rd_carry (h2.2.2.2.2.1) hw)) ?_
     refine s2 ?_
     refine kp [2,3,31] ?_
     refine W_cond rfl (fun q9=>?_) (fun q9=>?_)
     ·refine s5 ?_
      refine res1 rfl (ResOK.tmp rfl) ⟨?_,rfl⟩ ms
      clear h1 h2
      exact eqx
     ·refine s5 ?_
      refine L_load rfl rfl (by first | exact RdC.blk mm) one87.h rfl ?_
      refine s1 ?_
      refine L_load rfl rfl (by first | exact RdC.blk mm) one87.h rfl ?_
      refine L_callX rfl fn183.h rfl (by exact fun w hw=>eqIntS_spec w _ _ (rd_carry (h1.2.2.2.2.2.1) hw) (rd_carry (h2.2.2.2.2.2.1) hw)) ?_
      refine s2 ?_
      refine kp [2,3,37] ?_
      refine W_cond rfl (fun q11=>?_) (fun q11=>?_)
      ·refine s5 ?_
       refine res1 rfl (ResOK.tmp rfl) ⟨?_,rfl⟩ ms
       clear h1 h2
       exact eqx
      ·refine s5 ?_
       refine L_load rfl rfl (by first | exact RdC.blk mm) one4.h rfl ?_
       refine s1 ?_
       refine L_load rfl rfl (by first | exact RdC.blk mm) one4.h rfl ?_
       refine s2 ?_
       refine kp [42] ?_
       refine W_cond rfl (fun q13=>?_) (fun q13=>?_)
       ·refine s5 ?_
        refine res1 rfl (ResOK.tmp rfl) ⟨?_,rfl⟩ ms
        clear h1 h2
        exact eqx
       ·refine s6 ?_
        refine res1 rfl (ResOK.tmp rfl) ⟨?_,rfl⟩ ms
        clear h1 h2
        exact eqx
theorem szLead_spec (w:World) (t1:T_Lead) (left:Int) (hl:0≤left) (hm:left≤1048576) (h1:GT.rd w [] t1) (ho:Ok.ok (GT.dat t1)):Spec Tryz.prog 139 [.agg (GT.cells t1).toArray,.int .i64 left].toArray w [] (IsV (.int .i64 (if (Bk.bulk t1:Int)≤left then left - (Bk.bulk t1:Int) else -1))):=by
 obtain ⟨⟨a11,a12⟩,a2,a3,a4,a5,a6,a7⟩:=t1
 change Spec _ _ [Value.agg #[.int .i64 a11,.int .i64 a12,.int .i64 a2,.int .i64 a3,.int .i64 a4,a5.hdr,a6.hdr,.bool a7],.int .i64 left].toArray w [] _
 refine Spec.intro Tryz.func139 rfl Tryz.ntmps139 rfl ?_
 refine s2 ?_
 refine bx fun bk2=>?_
 refine s5 ?_
 refine L_load rfl rfl (by first | exact RdC.blk mm) one140.h rfl ?_
 refine s1 ?_
 refine L_callX rfl fn179.h rfl (by exact fun w hw=>szIdS_spec w _ (left) (by omega) (by omega) (rd_carry (h1.2.2.2.2.1) hw) ho.2.2.2.2.1) ?_
 refine s8 ?_
 refine kp [1,2,10] ?_
 refine W_cond rfl (fun q2=>?_) (fun q2=>?_)
 ·have hb4:¬ ((Bk.bulk a5:Int)≤left):=by
   intro hn
   rw [if_pos hn] at q2;simp at q2;omega
  refine s5 ?_
  refine res1 rfl (ResOK.tmp rfl) ⟨?_,rfl⟩ ms
  try simp only [bulk_pair,bulk_int,bulk_bool,bulk_str,Int.natCast_add,Int.natCast_zero] at *
  all_goals first
   | rfl
   | (rw [if_pos (by omega)]<;>(congr 1<;>omega))
   | (rw [if_neg (by omega)])
 ·have hb4:(Bk.bulk a5:Int)≤left:=by
   rcases Int.decLt (left) (Bk.bulk a5:Int) with hn | hn
   ·omega
   ·rw [if_neg (by omega)] at q2;simp at q2
  rw [if_pos hb4]
  refine s4 ?_
  refine L_load rfl rfl (by first | exact RdC.blk mm) one87.h rfl ?_
  refine s1 ?_
  refine L_callX rfl fn180.h rfl (by exact fun w hw=>szIntS_spec w _ (left - (Bk.bulk a5:Int)) (by omega) (by omega) (rd_carry (h1.2.2.2.2.2.1) hw) ho.2.2.2.2.2.1) ?_
  refine s8 ?_
  refine kp [1,16] ?_
  refine W_cond rfl (fun q5=>?_) (fun q5=>?_)
  ·have hb5:¬ ((Bk.bulk a6:Int)≤left - (Bk.bulk a5:Int)):=by
    intro hn
    rw [if_pos hn] at q5;simp at q5;omega
   refine s5 ?_
   refine res1 rfl (ResOK.tmp rfl) ⟨?_,rfl⟩ ms
   try simp only [bulk_pair,bulk_int,bulk_bool,bulk_str,Int.natCast_add,Int.natCast_zero] at *
   all_goals first
    | rfl
    | (rw [if_pos (by omega)]<;>(congr 1<;>omega))
    | (rw [if_neg (by omega)])
  ·have hb5:(Bk.bulk a6:Int)≤left - (Bk.bulk a5:Int):=by
    rcases Int.decLt (left - (Bk.bulk a5:Int)) (Bk.bulk a6:Int) with hn | hn
    ·omega
    ·rw [if_neg (by omega)] at q5;simp at q5
   rw [if_pos hb5]
   refine s7 ?_
   refine res1 rfl (ResOK.tmp rfl) ⟨?_,rfl⟩ ms
   try simp only [bulk_pair,bulk_int,bulk_bool,bulk_str,Int.natCast_add,Int.natCast_zero] at *
   all_goals first
    | rfl
    | (rw [if_pos (by omega)]<;>(congr 1<;>omega))
    | (rw [if_neg (by omega)])
theorem toLead_spec (w:World) (t1:T_Lead) (h1:GT.rd w [] t1) (hb:Bk.bulk t1≤1048576):Spec Tryz.prog 141 [.agg (GT.cells t1).toArray].toArray w [] (fun v M=>∃ t2:T_Lead,v=.agg (GT.cells t2).toArray∧GT.dat t2=GT.dat t1∧M=[treeH t2]):=by
 obtain ⟨⟨a11,a12⟩,a2,a3,a4,a5,a6,a7⟩:=t1
 have hbk_0:Bk.bulk (a11,a12)≤1048576:=by (try simp only [bulk_pair,bulk_int,bulk_bool,bulk_str] at hb ⊢);omega
 have hbk_4:Bk.bulk a5≤1048576:=by (try simp only [bulk_pair,bulk_int,bulk_bool,bulk_str] at hb ⊢);omega
 have hbk_5:Bk.bulk a6≤1048576:=by (try simp only [bulk_pair,bulk_int,bulk_bool,bulk_str] at hb ⊢);omega
 change Spec _ _ [Value.agg #[.int .i64 a11,.int .i64 a12,.int .i64 a2,.int .i64 a3,.int .i64 a4,a5.hdr,a6.hdr,.bool a7]].toArray w [] _
 refine Spec.intro Tryz.func141 rfl Tryz.ntmps141 rfl ?_
 refine s2 ?_
 refine bx fun bk1=>?_
 refine al fun bk2=>?_
 refine s3 ?_
 refine al fun bk3=>?_
 refine s4 ?_
 refine L_loadW rfl rfl (RdC.seg (by first | exact RdC.blk mm) 0 2 rfl) (by exact agg57.h) ?_
 refine L_callR rfl fn22.h rfl (by exact fun w hw=>toId_spec w (a11,a12) (rd_carry (h1.1) hw) hbk_0) ?_
 rintro v M1 ⟨n1t,hv,hd0,rfl⟩
 obtain ⟨n11,n12⟩:=n1t
 subst hv
 simp only [List.cons_append,List.nil_append]
 refine s1 ?_
 refine L_storeA (fo:=0) rfl rfl pk (by exact agg29.h) (Nat.le_of_ble_eq_true rfl) (by first | (simp [Value.oneCell',TL.hdr];done) | (simp [Value.oneCell',TL.hdr,Value.cells];done) | exact fun v hv=>GT.one _ v hv) (by simp only [cells_pair,cells_int,cells_bool,cells_str,cells_TL,List.take_zero,List.take_succ_cons,List.drop_zero,List.drop_succ_cons,List.set_cons_zero,List.set_cons_succ,List.length_cons,List.length_nil,List.cons_append,List.nil_append,List.append_nil,Nat.zero_add,Nat.reduceAdd];rfl) ?_
 refine s4 ?_
 refine L_load rfl rfl (by first | exact RdC.blk mm) one3.h rfl ?_
 refine s6 ?_
 refine L_load rfl rfl (by first | exact RdC.blk mm) one3.h rfl ?_
 refine s6 ?_
 refine L_load rfl rfl (by first | exact RdC.blk mm) one3.h rfl ?_
 refine s6 ?_
 refine L_load rfl rfl (by first | exact RdC.blk mm) one140.h rfl ?_
 refine L_callR rfl fn181.h rfl (by exact fun w hw=>toIdS_spec w _ (rd_carry (h1.2.2.2.2.1) hw) hbk_4) ?_
 rintro v M1 ⟨n5t,hv,hd4,rfl⟩
 subst hv
 simp only [List.cons_append,List.nil_append]
 refine s6 ?_
 refine L_load rfl rfl (by first | exact RdC.blk mm) one87.h rfl ?_
 refine L_callR rfl fn182.h rfl (by exact fun w hw=>toIntS_spec w _ (rd_carry (h1.2.2.2.2.2.1) hw) hbk_5) ?_
 rintro v M1 ⟨n6t,hv,hd5,rfl⟩
 subst hv
 simp only [List.cons_append,List.nil_append]
 refine s6 ?_
 refine L_load rfl rfl (by first | exact RdC.blk mm) one4.h rfl ?_
 refine s5 ?_
 refine L_loadW rfl rfl (by first | exact RdC.blk mm) (by exact agg89.h) ?_
 refine L_storeW rfl rfl pk (by exact agg89.h) (by rfl) (by first | (simp [Value.oneCell',TL.hdr];done) | (simp [Value.oneCell',TL.hdr,Value.cells];done) | exact fun v hv=>GT.one _ v hv) ?_
 refine s1 ?_
 refine W_conv (M':=treeH (n6t,a7)::_) (fun w h=>pairPick pk (h.addFlat (flat_bool _))) ?_
 refine W_conv (M':=treeH (n5t,n6t,a7)::_) (fun w h=>pairPick pk h) ?_
 refine W_conv (M':=treeH (a4,n5t,n6t,a7)::_) (fun w h=>tree_snd (flat_int (h1.2.2.2.1)) h) ?_
 refine W_conv (M':=treeH (a3,a4,n5t,n6t,a7)::_) (fun w h=>tree_snd (flat_int (h1.2.2.1)) h) ?_
 refine W_conv (M':=treeH (a2,a3,a4,n5t,n6t,a7)::_) (fun w h=>tree_snd (flat_int (h1.2.1)) h) ?_
 refine W_conv (M':=treeH ((n11,n12),a2,a3,a4,n5t,n6t,a7)::_) (fun w h=>pairPick pk h) ?_
 refine s1 ?_
 refine res1 rfl (ResOK.cell rfl mm (by exact agg89.h)) ⟨((n11,n12),a2,a3,a4,n5t,n6t,a7),rfl,by simp only [dat_pair,hd0,hd4,hd5],rfl⟩ ms
theorem eqLeadS_spec (w:World) (t1 t2:TL T_Lead) (h1:GT.rd w [] t1) (h2:GT.rd w [] t2):Spec Tryz.prog 74 [t1.hdr,t2.hdr].toArray w [] (IsV (.bool (eqB (GT.dat t1) (GT.dat t2)))):=by
 obtain ⟨a1,c1,e1,x1,y1⟩:=t1
 obtain ⟨a2,c2,e2,x2,y2⟩:=t2
 have hm1:x1.length≤9223372036854775807:=rd_len h1
 have hm2:x2.length≤9223372036854775807:=rd_len h2
 dsimp only [TL.hdr]
 refine Spec.intro Tryz.func74 rfl Tryz.ntmps74 rfl ?_
 refine s8 ?_
 refine L_lenS rfl rfl el25.h ?_
 refine s1 ?_
 refine L_lenS rfl rfl el25.h ?_
 refine s2 ?_
 refine kp [0,1,10] ?_
 refine W_cond rfl (fun q1=>?_) (fun q1=>?_)
 ·refine s5 ?_
  refine res1 rfl (ResOK.tmp rfl) ⟨?_,rfl⟩ ms
  refine congrArg Value.bool (Eq.symm (eqB_false.2 fun e=>?_))
  simp at q1
  exact q1 (by have:=congrArg List.length e;simp [dat_TL] at this;omega)
 ·have hl:x1.length=x2.length:=by simp at q1;omega
  refine s7 ?_
  refine W_loopC (σ:=Nat) 0 (fun (k:Nat)=>[(5,.int .i64 (k:Int))]) (fun (k:Nat)=>[]) (fun (k:Nat)=>k≤x1.length∧(x1.map GT.dat).take k=(x2.map GT.dat).take k) (fun (k:Nat)=>x1.length - k) [(0,_),(1,_)] [] ?_ sb ms ?_
  ·exact ⟨Nat.zero_le _,rfl⟩
  ·rintro k ⟨hk,ht⟩
   refine kq [0,1,5] ?_
   refine s5 ?_
   refine L_lenS rfl rfl el25.h ?_
   refine s2 ?_
   refine kp [0,1,5,14] ?_
   refine W_cond rfl (fun q4=>?_) (fun q4=>?_)
   ·have hk1:k < x1.length:=by simpa using q4
    obtain ⟨g1,o1,rfl⟩:=rd_addr h1 hk1
    obtain ⟨g2,o2,rfl⟩:=rd_addr (k:=k) h2 (show k < x2.length by omega)
    obtain ⟨u1,hu1⟩:=getEl hk1
    obtain ⟨u2,hu2⟩:=getEl (show k < x2.length by omega)
    refine s4 ?_
    refine W_D0 [26] mix (by kernel_rfl) rfl ?_
    refine s2 ?_
    refine D_indexAddr _ GC.none (OpV.t rfl) (OpV.t rfl) el25.h (fun hg=>⟨rfl,by (try dsimp only);omega⟩) ?_
    refine D_loadW GC.none (OpV.t rfl) (fun hg=>(by first | exact RdC.blk mm | exact RdC.old (Cells.el h1 rfl hu1) | exact RdC.old (Cells.el h2 rfl hu2))) (by exact agg89.h) ?_
    refine s2 ?_
    refine D_indexAddr _ GC.none (OpV.t rfl) (OpV.t rfl) el25.h (fun hg=>⟨rfl,by (try dsimp only);omega⟩) ?_
    refine D_loadW GC.none (OpV.t rfl) (fun hg=>(by first | exact RdC.blk mm | exact RdC.old (Cells.el h1 rfl hu1) | exact RdC.old (Cells.el h2 rfl hu2))) (by exact agg89.h) ?_
    refine D_callX GC.none fn143.h (OpVs.cons (OpV.t rfl) (OpVs.cons (OpV.t rfl) (OpVs.nil))) (by exact fun hg w F hF hM=>(fun w hw=>eqLead_spec w _ _ (rd_carry (h1.2.2.1 _ (List.mem_of_getElem? hu1)) hw) (rd_carry (h2.2.2.1 _ (List.mem_of_getElem? hu2)) hw)) w hF) ?_
    refine s13 ?_
    refine kp [0,1,5,26] ?_
    refine W_cond rfl (fun q6=>?_) (fun q6=>?_)
    ·refine s5 ?_
     refine res1 rfl (ResOK.tmp rfl) ⟨?_,rfl⟩ ms
     refine congrArg Value.bool (Eq.symm (eqB_false.2 fun e=>?_))
     simp at q6
     replace e:x1.map GT.dat=x2.map GT.dat:=e
     have e2:=congrArg (fun l=>l[k]?) e
     simp only [List.getElem?_map,hu1,hu2,Option.map_some,Option.some.injEq] at e2
     exact q6 (by simpa [dat_int,dat_str,dat_bool] using e2)
    ·refine s3 ?_
     refine L_binV rfl rfl rfl (bv_addR (by unfold inR;omega)) ?_
     refine s2 ?_
     refine ⟨k+1,sb,ms,?_,?_⟩
     ·exact ⟨by omega,take_succ_eq ht (by rw [List.getElem?_map,hu1];rfl) (by rw [List.getElem?_map,hu2];rfl) (by simpa [dat_int,dat_str,dat_bool] using q6)⟩
     ·(try dsimp only);omega
   ·refine W_exit ?_
    refine s5 ?_
    refine res1 rfl (ResOK.tmp rfl) ⟨?_,rfl⟩ ms
    refine congrArg Value.bool (Eq.symm (eqB_true.2 ?_))
    have hk2:x1.length≤k:=by simpa using q4
    have h3:=ht
    rw [List.take_of_length_le (by simp;omega),List.take_of_length_le (by simp;omega)] at h3
    exact h3
theorem szLeadS_spec (w:World) (t1:TL T_Lead) (left:Int) (hl:0≤left) (hm:left≤1048576) (h1:GT.rd w [] t1) (ho:Ok.ok (GT.dat t1)):Spec Tryz.prog 70 [t1.hdr,.int .i64 left].toArray w [] (IsV (.int .i64 (if (Bk.bulk t1:Int)≤left then left - (Bk.bulk t1:Int) else -1))):=by
  obtain ⟨a1,c1,e1,x1,y1⟩:=t1
  have hm1:x1.length≤9223372036854775807:=rd_len h1
  rw [bulk_TL]
  dsimp only [TL.hdr]
  refine Spec.intro Tryz.func70 rfl Tryz.ntmps70 rfl ?_
  refine s8 ?_
  refine L_lenS rfl rfl el54.h ?_
  refine L_binV rfl rfl rfl (bv_subR (by unfold inR;omega)) ?_
  refine s8 ?_
  refine kp [0,1,11] ?_
  refine W_cond rfl (fun q2=>?_) (fun q2=>?_)
  · have hb0:left - (x1.length:Int) < 0:=by simpa using q2
    refine s5 ?_
    refine res1 rfl (ResOK.tmp rfl) ⟨?_,rfl⟩ ms
    first
      | (rw [if_neg (by simp only [Int.natCast_add];omega)];done)
      | (rw [if_neg (by have:=bulks_take_le x1 (k+1);simp only [Int.natCast_add];omega)];done)
      | (have hk2:x1.length≤k:=by simpa using q5
         rw [List.take_of_length_le hk2] at ht ⊢
         rw [if_pos (by simp only [Int.natCast_add];omega)];congr 1;simp only [Int.natCast_add];omega)
  · have hb0:¬ (left - (x1.length:Int) < 0):=by simpa using q2
    refine s7 ?_
    have h0:left - (x1.length:Int)=left - (x1.length:Int) - (bulks (x1.take 0):Int):=by simp [bulks]
    rw [h0]
    refine W_loopC (σ:=Nat) 0 (fun (k:Nat)=>[(1,.int .i64 (left - (x1.length:Int) - (bulks (x1.take k):Int))),(5,.int .i64 (k:Int))]) (fun (k:Nat)=>[]) (fun (k:Nat)=>k≤x1.length∧0≤(left - (x1.length:Int) - (bulks (x1.take k):Int))) (fun (k:Nat)=>x1.length - k) [(0,_)] [] ?_ sb ms ?_
    · exact ⟨Nat.zero_le _,by simp [bulks];omega⟩
    · rintro k ⟨hk,ht⟩
      refine kq [0,1,5] ?_
      refine s5 ?_
      refine L_lenS rfl rfl el54.h ?_
      refine s2 ?_
      refine kp [0,1,5,15] ?_
      refine W_cond rfl (fun q5=>?_) (fun q5=>?_)
      · have hk1:k < x1.length:=by simpa using q5
        obtain ⟨g1,o1,rfl⟩:=rd_addr h1 hk1
        obtain ⟨u1,hu1⟩:=getEl hk1
        have hbs:=bulks_take_succ hu1
        have hble:=bulks_take_le x1 (k+1)
        refine s7 ?_
        refine L_indexAddr rfl rfl rfl el54.h rfl (by omega) ?_
        refine L_loadW rfl rfl (by first | exact RdC.blk mm | exact RdC.old (Cells.el h1 rfl hu1)) (by exact agg145.h) ?_
        refine s1 ?_
        refine L_callX rfl fn139.h rfl (by exact fun w hw=>szLead_spec w _ _ (by omega) (by omega) (rd_carry (h1.2.2.1 _ (List.mem_of_getElem? hu1)) hw) (ho.2 _ (List.mem_map.2 ⟨u1,List.mem_of_getElem? hu1,rfl⟩))) ?_
        refine s7 ?_
        refine kp [0,1,5,25] ?_
        refine W_cond rfl (fun q8=>?_) (fun q8=>?_)
        · have hb1:¬ ((Bk.bulk u1:Int)≤(left - (x1.length:Int) - (bulks (x1.take k):Int))):=by
            intro hn
            rw [if_pos hn] at q8;simp at q8;omega
          refine s5 ?_
          refine res1 rfl (ResOK.tmp rfl) ⟨?_,rfl⟩ ms
          first
            | (rw [if_neg (by simp only [Int.natCast_add];omega)];done)
            | (rw [if_neg (by have:=bulks_take_le x1 (k+1);simp only [Int.natCast_add];omega)];done)
            | (have hk2:x1.length≤k:=by simpa using q5
               rw [List.take_of_length_le hk2] at ht ⊢
               rw [if_pos (by simp only [Int.natCast_add];omega)];congr 1;simp only [Int.natCast_add];omega)
        · have hb1:(Bk.bulk u1:Int)≤(left - (x1.length:Int) - (bulks (x1.take k):Int)):=by
            rcases Int.decLt (left - (x1.length:Int) - (bulks (x1.take k):Int)) (Bk.bulk u1:Int) with hn | hn
            · omega
            · rw [if_neg (by omega)] at q8;simp at q8
          rw [if_pos hb1]
          have hnx:(left - (x1.length:Int) - (bulks (x1.take k):Int)) - (Bk.bulk u1:Int)=left - (x1.length:Int) - (bulks (x1.take (k+1)):Int):=by rw [hbs];omega
          rw [hnx]
          refine s3 ?_
          refine L_binV rfl rfl rfl (bv_addR (by unfold inR;omega)) ?_
          refine s2 ?_
          refine ⟨k+1,sb,ms,?_,?_⟩
          · exact ⟨by omega,by omega⟩
          · (try dsimp only);omega
      · refine W_exit ?_
        refine s6 ?_
        refine res1 rfl (ResOK.tmp rfl) ⟨?_,rfl⟩ ms
        first
          | (rw [if_neg (by simp only [Int.natCast_add];omega)];done)
          | (rw [if_neg (by have:=bulks_take_le x1 (k+1);simp only [Int.natCast_add];omega)];done)
          | (have hk2:x1.length≤k:=by simpa using q5
             rw [List.take_of_length_le hk2] at ht ⊢
             rw [if_pos (by simp only [Int.natCast_add];omega)];congr 1;simp only [Int.natCast_add];omega)
theorem toLeadS_spec (w:World) (t1:TL T_Lead) (h1:GT.rd w [] t1) (hb:Bk.bulk t1≤1048576):Spec Tryz.prog 72 [t1.hdr].toArray w [] (fun v M=>∃ t2:TL T_Lead,v=t2.hdr∧GT.dat t2=GT.dat t1∧M=[treeH t2]):=by
 obtain ⟨a1,c1,e1,x1,y1⟩:=t1
 rw [bulk_TL] at hb
 dsimp only [TL.hdr]
 refine Spec.intro Tryz.func72 rfl Tryz.ntmps72 rfl ?_
 refine s7 ?_
 refine L_lenS rfl rfl el54.h ?_
 refine L_make (τ:=T_Lead) (((0:Int),(0:Int)),(0:Int),(0:Int),(0:Int),(TL.nil T_Id 0),(TL.nil Int 0),false) rfl rfl rfl el25.h rfl rfl (flat_pair (flat_pair (flat_int trivial) (flat_int trivial)) (flat_pair (flat_int trivial) (flat_pair (flat_int trivial) (flat_pair (flat_int trivial) (flat_pair (flat_nil 0) (flat_pair (flat_nil 0) (flat_bool _))))))) (by omega) (by unfold maxLen;omega) (fun g=>?_)
 refine s8 ?_
 refine W_loopC (σ:=Nat×List T_Lead) (0,List.replicate x1.length (((0:Int),(0:Int)),(0:Int),(0:Int),(0:Int),(TL.nil T_Id 0),(TL.nil Int 0),false)) (fun (p:Nat×List T_Lead)=>[(4,.int .i64 (p.1:Int))]) (fun (p:Nat×List T_Lead)=>[treeH (⟨some ⟨g,0,none⟩,x1.length,89,p.2,[]⟩:TL T_Lead)]) (fun (p:Nat×List T_Lead)=>p.1≤x1.length∧p.2.length=x1.length∧(p.2.take p.1).map GT.dat=(x1.take p.1).map GT.dat) (fun (p:Nat×List T_Lead)=>x1.length - p.1) [(0,_),(3,_)] [] ?_ sb ms ?_
 ·exact ⟨Nat.zero_le _,by simp,by simp⟩
 ·rintro ⟨k,cur⟩ ⟨hk,hlen,hdat⟩
  dsimp only at hk hlen hdat
  refine kq [0,3,4] ?_
  refine s5 ?_
  refine L_lenS rfl rfl el54.h ?_
  refine s2 ?_
  refine kp [0,3,4,11] ?_
  refine W_cond rfl (fun q3=>?_) (fun q3=>?_)
  ·have hk1:k < x1.length:=by simpa using q3
   obtain ⟨g1,o1,rfl⟩:=rd_addr h1 hk1
   obtain ⟨u1,hu1⟩:=getEl hk1
   have hub:Bk.bulk u1≤1048576:=by have:=bulk_mem (List.mem_of_getElem? hu1);omega
   refine s8 ?_
   refine L_indexAddr rfl rfl rfl el54.h rfl (by omega) ?_
   refine L_loadW rfl rfl (by first | exact RdC.blk mm | exact RdC.old (Cells.el h1 rfl hu1)) (by exact agg145.h) ?_
   refine L_callR rfl fn141.h rfl (by exact fun w hw=>toLead_spec w _ (rd_carry (h1.2.2.1 _ (List.mem_of_getElem? hu1)) hw) hub) ?_
   rintro v M1 ⟨u2,hv,hd,rfl⟩
   subst hv
   simp only [List.cons_append,List.nil_append]
   refine L_indexAddr rfl rfl rfl el25.h rfl (by omega) ?_
   obtain ⟨u0,hu0⟩:=getEl (show k < cur.length by omega)
   refine L_storeEl u2 rfl rfl pk rfl hu0 rfl pk (.inl agg89.h) ?_
   refine s3 ?_
   refine L_binV rfl rfl rfl (bv_addR (by unfold inR;omega)) ?_
   refine s2 ?_
   refine ⟨(k+1,cur.set k u2),sb,ms,?_,?_⟩
   ·exact ⟨by dsimp only;omega,by simpa using hlen,map_take_set GT.dat GT.dat hdat (by omega) hu1 hd⟩
   ·dsimp only;omega
  ·refine W_exit ?_
   refine s6 ?_
   refine res1 rfl (ResOK.tmp rfl) ⟨⟨some ⟨g,0,none⟩,x1.length,89,cur,[]⟩,?_,?_,rfl⟩ ms
   ·show _=Value.slice _ cur.length _
    rw [hlen]
   ·have hk2:x1.length≤k:=by simpa using q3
    rw [List.take_of_length_le (by omega),List.take_of_length_le (by omega)] at hdat
    exact hdat
set_option maxHeartbeats 4000000 in
theorem markLeadS_spec (w:World) (t1:TL T_Lead) (k0:Nat) (hk0:0 < k0) (hb:k0+Mk.cnt t1 < 9223372036854775807):Spec Tryz.prog 77 [t1.hdr,.int .i64 (k0:Int)].toArray w [treeH t1] (fun v M=>v=.int .i64 ((k0+Mk.cnt t1:Nat):Int)∧M=[treeH (Mk.mkd k0 t1)]):=by
 obtain ⟨a1,c1,e1,x1,y1⟩:=t1
 replace hb:k0+cnts x1 < 9223372036854775807:=hb
 dsimp only [TL.hdr]
 refine Spec.intro Tryz.func77 rfl Tryz.ntmps77 rfl ?_
 refine W_fact (fun w h=>ow_facts (h.prs _ (List.mem_cons_self ..))) fun hF=>?_
 replace hF:x1.length≤9223372036854775807∧(0 < x1.length→∃ g,a1=some ⟨g,0,none⟩):=hF
 refine s10 ?_
 refine W_conv (M':=[treeH (⟨a1,c1,e1,half k0 0 x1,y1⟩:TL T_Lead)]) (fun w h=>by rw [half_zero];exact h) ?_
 refine W_loopC (σ:=Nat) 0 (fun (i:Nat)=>[(1,.int .i64 ((k0+cnts (x1.take i):Nat):Int)),(5,.int .i64 (i:Int))]) (fun (i:Nat)=>[treeH (⟨a1,c1,e1,half k0 i x1,y1⟩:TL T_Lead)]) (fun (i:Nat)=>i≤x1.length) (fun (i:Nat)=>x1.length - i) [(0,_)] [] ?_ sb ms ?_
 ·exact Nat.zero_le _
 ·rintro i hi
  refine kq [0,1,5] ?_
  refine s5 ?_
  refine L_lenS rfl rfl el25.h ?_
  refine s2 ?_
  refine kp [0,1,5,9] ?_
  refine W_cond rfl (fun q2=>?_) (fun q2=>?_)
  ·have hk1:i < x1.length:=by simpa using q2
   obtain ⟨g,rfl⟩:=hF.2 (by omega)
   obtain ⟨u,hu⟩:=getEl hk1
   have hs:=cnts_take_succ hu
   have hle:=cnts_take_le x1 (i+1)
   have hlh:=half_length k0 i x1
   obtain ⟨⟨b11,b12⟩,b2,b3,b4,b5,b6,b7⟩:=u
   simp only [cnt_pair,cnt_int,cnt_str,cnt_bool] at hs
   refine s8 ?_
   refine L_indexAddr rfl rfl rfl el25.h rfl (by omega) ?_
   refine s2 ?_
   refine L_storeElF (fo:=0) (x':=((((((k0+cnts (x1.take i)):Nat):Int),b12),b2,b3,b4,b5,b6,b7):T_Lead)) rfl rfl pk rfl (show ((half k0 i x1):List T_Lead)[i]?=some (((b11,b12),b2,b3,b4,b5,b6,b7):T_Lead) from half_get (k:=k0) hu) rfl rfl (by decide) rfl (fun w h=>by exact ⟨⟨(by exact trivial),h.1.2⟩,h.2.1,h.2.2.1,h.2.2.2.1,h.2.2.2.2.1,h.2.2.2.2.2.1,h.2.2.2.2.2.2⟩) one3.h ?_
   refine s4 ?_
   refine L_binV rfl rfl rfl (bv_addR (by unfold inR;omega)) ?_
   refine s2 ?_
   rw [show (((k0+cnts (x1.take i)):Nat):Int)+1=((((k0+cnts (x1.take i))+1):Nat):Int) from rfl]
   refine s5 ?_
   refine L_indexAddr rfl rfl rfl el25.h rfl (by omega) ?_
   refine s2 ?_
   refine L_storeElF (fo:=1) (x':=((((((k0+cnts (x1.take i)):Nat):Int),((((k0+cnts (x1.take i))+1):Nat):Int)),b2,b3,b4,b5,b6,b7):T_Lead)) rfl rfl pk rfl (show (((half k0 i x1).set i ((((((k0+cnts (x1.take i)):Nat):Int),b12),b2,b3,b4,b5,b6,b7):T_Lead)):List T_Lead)[i]?=some ((((((k0+cnts (x1.take i)):Nat):Int),b12),b2,b3,b4,b5,b6,b7):T_Lead) from set_get (half_get (k:=k0) hu)) rfl rfl (by decide) rfl (fun w h=>by exact ⟨⟨h.1.1,(by exact trivial)⟩,h.2.1,h.2.2.1,h.2.2.2.1,h.2.2.2.2.1,h.2.2.2.2.2.1,h.2.2.2.2.2.2⟩) one3.h ?_
   rw [List.set_set]
   refine s4 ?_
   refine L_binV rfl rfl rfl (bv_addR (by unfold inR;omega)) ?_
   refine s2 ?_
   rw [show ((((k0+cnts (x1.take i))+1):Nat):Int)+1=((((k0+cnts (x1.take i))+2):Nat):Int) from rfl]
   refine s5 ?_
   refine L_indexAddr rfl rfl rfl el25.h rfl (by omega) ?_
   refine s1 ?_
   refine L_storeElF (fo:=2) (x':=((((((k0+cnts (x1.take i)):Nat):Int),((((k0+cnts (x1.take i))+1):Nat):Int)),((((k0+cnts (x1.take i))+2):Nat):Int),b3,b4,b5,b6,b7):T_Lead)) rfl rfl pk rfl (show (((half k0 i x1).set i ((((((k0+cnts (x1.take i)):Nat):Int),((((k0+cnts (x1.take i))+1):Nat):Int)),b2,b3,b4,b5,b6,b7):T_Lead)):List T_Lead)[i]?=some ((((((k0+cnts (x1.take i)):Nat):Int),((((k0+cnts (x1.take i))+1):Nat):Int)),b2,b3,b4,b5,b6,b7):T_Lead) from set_get (half_get (k:=k0) hu)) rfl rfl (by decide) rfl (fun w h=>by exact ⟨⟨h.1.1,h.1.2⟩,(by exact trivial),h.2.2.1,h.2.2.2.1,h.2.2.2.2.1,h.2.2.2.2.2.1,h.2.2.2.2.2.2⟩) one3.h ?_
   rw [List.set_set]
   refine s4 ?_
   refine L_binV rfl rfl rfl (bv_addR (by unfold inR;omega)) ?_
   refine s2 ?_
   rw [show ((((k0+cnts (x1.take i))+2):Nat):Int)+1=((((k0+cnts (x1.take i))+3):Nat):Int) from rfl]
   refine s5 ?_
   refine L_indexAddr rfl rfl rfl el25.h rfl (by omega) ?_
   refine s1 ?_
   refine L_storeElF (fo:=3) (x':=((((((k0+cnts (x1.take i)):Nat):Int),((((k0+cnts (x1.take i))+1):Nat):Int)),((((k0+cnts (x1.take i))+2):Nat):Int),((((k0+cnts (x1.take i))+3):Nat):Int),b4,b5,b6,b7):T_Lead)) rfl rfl pk rfl (show (((half k0 i x1).set i ((((((k0+cnts (x1.take i)):Nat):Int),((((k0+cnts (x1.take i))+1):Nat):Int)),((((k0+cnts (x1.take i))+2):Nat):Int),b3,b4,b5,b6,b7):T_Lead)):List T_Lead)[i]?=some ((((((k0+cnts (x1.take i)):Nat):Int),((((k0+cnts (x1.take i))+1):Nat):Int)),((((k0+cnts (x1.take i))+2):Nat):Int),b3,b4,b5,b6,b7):T_Lead) from set_get (half_get (k:=k0) hu)) rfl rfl (by decide) rfl (fun w h=>by exact ⟨⟨h.1.1,h.1.2⟩,h.2.1,(by exact trivial),h.2.2.2.1,h.2.2.2.2.1,h.2.2.2.2.2.1,h.2.2.2.2.2.2⟩) one3.h ?_
   rw [List.set_set]
   refine s4 ?_
   refine L_binV rfl rfl rfl (bv_addR (by unfold inR;omega)) ?_
   refine s2 ?_
   rw [show ((((k0+cnts (x1.take i))+3):Nat):Int)+1=((((k0+cnts (x1.take i))+4):Nat):Int) from rfl]
   refine s5 ?_
   refine L_indexAddr rfl rfl rfl el25.h rfl (by omega) ?_
   refine s1 ?_
   refine L_storeElF (fo:=4) (x':=((((((k0+cnts (x1.take i)):Nat):Int),((((k0+cnts (x1.take i))+1):Nat):Int)),((((k0+cnts (x1.take i))+2):Nat):Int),((((k0+cnts (x1.take i))+3):Nat):Int),((((k0+cnts (x1.take i))+4):Nat):Int),b5,b6,b7):T_Lead)) rfl rfl pk rfl (show (((half k0 i x1).set i ((((((k0+cnts (x1.take i)):Nat):Int),((((k0+cnts (x1.take i))+1):Nat):Int)),((((k0+cnts (x1.take i))+2):Nat):Int),((((k0+cnts (x1.take i))+3):Nat):Int),b4,b5,b6,b7):T_Lead)):List T_Lead)[i]?=some ((((((k0+cnts (x1.take i)):Nat):Int),((((k0+cnts (x1.take i))+1):Nat):Int)),((((k0+cnts (x1.take i))+2):Nat):Int),((((k0+cnts (x1.take i))+3):Nat):Int),b4,b5,b6,b7):T_Lead) from set_get (half_get (k:=k0) hu)) rfl rfl (by decide) rfl (fun w h=>by exact ⟨⟨h.1.1,h.1.2⟩,h.2.1,h.2.2.1,(by exact trivial),h.2.2.2.2.1,h.2.2.2.2.2.1,h.2.2.2.2.2.2⟩) one3.h ?_
   rw [List.set_set]
   refine s4 ?_
   refine L_binV rfl rfl rfl (bv_addR (by unfold inR;omega)) ?_
   refine s2 ?_
   rw [show ((((k0+cnts (x1.take i))+4):Nat):Int)+1=((((k0+cnts (x1.take i))+5):Nat):Int) from rfl]
   refine s4 ?_
   refine L_indexAddr rfl rfl rfl el25.h rfl (by omega) ?_
   refine s1 ?_
   refine L_load rfl rfl (by exact RdC.el (L:=(⟨some ⟨g,0,none⟩,c1,e1,((half k0 i x1).set i ((((((k0+cnts (x1.take i)):Nat):Int),((((k0+cnts (x1.take i))+1):Nat):Int)),((((k0+cnts (x1.take i))+2):Nat):Int),((((k0+cnts (x1.take i))+3):Nat):Int),((((k0+cnts (x1.take i))+4):Nat):Int),b5,b6,b7):T_Lead)),y1⟩:TL T_Lead)) mm rfl (show (((half k0 i x1).set i ((((((k0+cnts (x1.take i)):Nat):Int),((((k0+cnts (x1.take i))+1):Nat):Int)),((((k0+cnts (x1.take i))+2):Nat):Int),((((k0+cnts (x1.take i))+3):Nat):Int),((((k0+cnts (x1.take i))+4):Nat):Int),b5,b6,b7):T_Lead)):List T_Lead)[i]?=some ((((((k0+cnts (x1.take i)):Nat):Int),((((k0+cnts (x1.take i))+1):Nat):Int)),((((k0+cnts (x1.take i))+2):Nat):Int),((((k0+cnts (x1.take i))+3):Nat):Int),((((k0+cnts (x1.take i))+4):Nat):Int),b5,b6,b7):T_Lead) from set_get (half_get (k:=k0) hu))) one33.h rfl ?_
   refine s1 ?_
   refine L_conv (fun w h=>el_out (L:=(⟨some ⟨g,0,none⟩,c1,e1,((half k0 i x1).set i ((((((k0+cnts (x1.take i)):Nat):Int),((((k0+cnts (x1.take i))+1):Nat):Int)),((((k0+cnts (x1.take i))+2):Nat):Int),((((k0+cnts (x1.take i))+3):Nat):Int),((((k0+cnts (x1.take i))+4):Nat):Int),b5,b6,b7):T_Lead)),y1⟩:TL T_Lead)) (show (((half k0 i x1).set i ((((((k0+cnts (x1.take i)):Nat):Int),((((k0+cnts (x1.take i))+1):Nat):Int)),((((k0+cnts (x1.take i))+2):Nat):Int),((((k0+cnts (x1.take i))+3):Nat):Int),((((k0+cnts (x1.take i))+4):Nat):Int),b5,b6,b7):T_Lead)):List T_Lead)[i]?=some ((((((k0+cnts (x1.take i)):Nat):Int),((((k0+cnts (x1.take i))+1):Nat):Int)),((((k0+cnts (x1.take i))+2):Nat):Int),((((k0+cnts (x1.take i))+3):Nat):Int),((((k0+cnts (x1.take i))+4):Nat):Int),b5,b6,b7):T_Lead) from set_get (half_get (k:=k0) hu)) (frontPick pk h)) ?_
   refine L_conv (fun w h=>tree_pair h) ?_
   refine L_conv (fun w h=>frontPick (Pick.there _ (Pick.here _)) h) ?_
   refine L_conv (fun w h=>tree_pair h) ?_
   refine L_conv (fun w h=>frontPick (Pick.there _ (Pick.here _)) h) ?_
   refine L_conv (fun w h=>tree_pair h) ?_
   refine L_conv (fun w h=>frontPick (Pick.there _ (Pick.here _)) h) ?_
   refine L_conv (fun w h=>tree_pair h) ?_
   refine L_conv (fun w h=>frontPick (Pick.there _ (Pick.here _)) h) ?_
   refine L_conv (fun w h=>tree_pair h) ?_
   refine L_call1 rfl fn80.h rfl (Pick.here _) (by exact fun w hw=>markIdS_spec w b5 ((k0+cnts (x1.take i))+5) (by omega) (by omega)) ?_
   rintro v M1 ⟨hv,rfl⟩
   subst hv
   simp only [List.cons_append,List.nil_append]
   refine L_conv (fun w h=>pairFront (Pick.here _) h) ?_
   refine L_conv (fun w h=>pairPick (Pick.here _) h) ?_
   refine L_conv (fun w h=>pairPick (Pick.here _) h) ?_
   refine L_conv (fun w h=>pairPick (Pick.here _) h) ?_
   refine L_conv (fun w h=>pairPick (Pick.here _) h) ?_
   refine L_conv (M':=treeH (⟨some ⟨g,0,none⟩,c1,e1,(((half k0 i x1).set i ((((((k0+cnts (x1.take i)):Nat):Int),((((k0+cnts (x1.take i))+1):Nat):Int)),((((k0+cnts (x1.take i))+2):Nat):Int),((((k0+cnts (x1.take i))+3):Nat):Int),((((k0+cnts (x1.take i))+4):Nat):Int),b5,b6,b7):T_Lead)).set i ((((((k0+cnts (x1.take i)):Nat):Int),((((k0+cnts (x1.take i))+1):Nat):Int)),((((k0+cnts (x1.take i))+2):Nat):Int),((((k0+cnts (x1.take i))+3):Nat):Int),((((k0+cnts (x1.take i))+4):Nat):Int),(Mk.mkd ((k0+cnts (x1.take i))+5) b5),b6,b7):T_Lead)),y1⟩:TL T_Lead)::_) (fun w h=>el_in (L:=(⟨some ⟨g,0,none⟩,c1,e1,((half k0 i x1).set i ((((((k0+cnts (x1.take i)):Nat):Int),((((k0+cnts (x1.take i))+1):Nat):Int)),((((k0+cnts (x1.take i))+2):Nat):Int),((((k0+cnts (x1.take i))+3):Nat):Int),((((k0+cnts (x1.take i))+4):Nat):Int),b5,b6,b7):T_Lead)),y1⟩:TL T_Lead)) (show (((half k0 i x1).set i ((((((k0+cnts (x1.take i)):Nat):Int),((((k0+cnts (x1.take i))+1):Nat):Int)),((((k0+cnts (x1.take i))+2):Nat):Int),((((k0+cnts (x1.take i))+3):Nat):Int),((((k0+cnts (x1.take i))+4):Nat):Int),b5,b6,b7):T_Lead)):List T_Lead)[i]?=some ((((((k0+cnts (x1.take i)):Nat):Int),((((k0+cnts (x1.take i))+1):Nat):Int)),((((k0+cnts (x1.take i))+2):Nat):Int),((((k0+cnts (x1.take i))+3):Nat):Int),((((k0+cnts (x1.take i))+4):Nat):Int),b5,b6,b7):T_Lead) from set_get (half_get (k:=k0) hu)) (by simp only [cells_pair,cells_mkTL]) h) ?_
   rw [List.set_set]
   refine s6 ?_
   refine L_indexAddr rfl rfl rfl el25.h rfl (by omega) ?_
   refine s1 ?_
   refine L_load rfl rfl (by exact RdC.el (L:=(⟨some ⟨g,0,none⟩,c1,e1,((half k0 i x1).set i ((((((k0+cnts (x1.take i)):Nat):Int),((((k0+cnts (x1.take i))+1):Nat):Int)),((((k0+cnts (x1.take i))+2):Nat):Int),((((k0+cnts (x1.take i))+3):Nat):Int),((((k0+cnts (x1.take i))+4):Nat):Int),(Mk.mkd ((k0+cnts (x1.take i))+5) b5),b6,b7):T_Lead)),y1⟩:TL T_Lead)) mm rfl (show (((half k0 i x1).set i ((((((k0+cnts (x1.take i)):Nat):Int),((((k0+cnts (x1.take i))+1):Nat):Int)),((((k0+cnts (x1.take i))+2):Nat):Int),((((k0+cnts (x1.take i))+3):Nat):Int),((((k0+cnts (x1.take i))+4):Nat):Int),(Mk.mkd ((k0+cnts (x1.take i))+5) b5),b6,b7):T_Lead)):List T_Lead)[i]?=some ((((((k0+cnts (x1.take i)):Nat):Int),((((k0+cnts (x1.take i))+1):Nat):Int)),((((k0+cnts (x1.take i))+2):Nat):Int),((((k0+cnts (x1.take i))+3):Nat):Int),((((k0+cnts (x1.take i))+4):Nat):Int),(Mk.mkd ((k0+cnts (x1.take i))+5) b5),b6,b7):T_Lead) from set_get (half_get (k:=k0) hu))) one87.h rfl ?_
   refine s1 ?_
   refine L_conv (fun w h=>el_out (L:=(⟨some ⟨g,0,none⟩,c1,e1,((half k0 i x1).set i ((((((k0+cnts (x1.take i)):Nat):Int),((((k0+cnts (x1.take i))+1):Nat):Int)),((((k0+cnts (x1.take i))+2):Nat):Int),((((k0+cnts (x1.take i))+3):Nat):Int),((((k0+cnts (x1.take i))+4):Nat):Int),(Mk.mkd ((k0+cnts (x1.take i))+5) b5),b6,b7):T_Lead)),y1⟩:TL T_Lead)) (show (((half k0 i x1).set i ((((((k0+cnts (x1.take i)):Nat):Int),((((k0+cnts (x1.take i))+1):Nat):Int)),((((k0+cnts (x1.take i))+2):Nat):Int),((((k0+cnts (x1.take i))+3):Nat):Int),((((k0+cnts (x1.take i))+4):Nat):Int),(Mk.mkd ((k0+cnts (x1.take i))+5) b5),b6,b7):T_Lead)):List T_Lead)[i]?=some ((((((k0+cnts (x1.take i)):Nat):Int),((((k0+cnts (x1.take i))+1):Nat):Int)),((((k0+cnts (x1.take i))+2):Nat):Int),((((k0+cnts (x1.take i))+3):Nat):Int),((((k0+cnts (x1.take i))+4):Nat):Int),(Mk.mkd ((k0+cnts (x1.take i))+5) b5),b6,b7):T_Lead) from set_get (half_get (k:=k0) hu)) (frontPick pk h)) ?_
   refine L_conv (fun w h=>tree_pair h) ?_
   refine L_conv (fun w h=>frontPick (Pick.there _ (Pick.here _)) h) ?_
   refine L_conv (fun w h=>tree_pair h) ?_
   refine L_conv (fun w h=>frontPick (Pick.there _ (Pick.here _)) h) ?_
   refine L_conv (fun w h=>tree_pair h) ?_
   refine L_conv (fun w h=>frontPick (Pick.there _ (Pick.here _)) h) ?_
   refine L_conv (fun w h=>tree_pair h) ?_
   refine L_conv (fun w h=>frontPick (Pick.there _ (Pick.here _)) h) ?_
   refine L_conv (fun w h=>tree_pair h) ?_
   refine L_conv (fun w h=>frontPick (Pick.there _ (Pick.here _)) h) ?_
   refine L_conv (fun w h=>tree_pair h) ?_
   refine L_call1 rfl fn146.h rfl (Pick.here _) (by exact fun w hw=>markIntS_spec w b6 (((k0+cnts (x1.take i))+5)+Mk.cnt b5) (by omega) (by omega)) ?_
   rintro v M1 ⟨hv,rfl⟩
   subst hv
   simp only [List.cons_append,List.nil_append]
   refine L_conv (fun w h=>pairFront (Pick.here _) h) ?_
   refine L_conv (fun w h=>pairPick (Pick.here _) h) ?_
   refine L_conv (fun w h=>pairPick (Pick.here _) h) ?_
   refine L_conv (fun w h=>pairPick (Pick.here _) h) ?_
   refine L_conv (fun w h=>pairPick (Pick.here _) h) ?_
   refine L_conv (fun w h=>pairPick (Pick.here _) h) ?_
   refine L_conv (M':=treeH (⟨some ⟨g,0,none⟩,c1,e1,(((half k0 i x1).set i ((((((k0+cnts (x1.take i)):Nat):Int),((((k0+cnts (x1.take i))+1):Nat):Int)),((((k0+cnts (x1.take i))+2):Nat):Int),((((k0+cnts (x1.take i))+3):Nat):Int),((((k0+cnts (x1.take i))+4):Nat):Int),(Mk.mkd ((k0+cnts (x1.take i))+5) b5),b6,b7):T_Lead)).set i ((((((k0+cnts (x1.take i)):Nat):Int),((((k0+cnts (x1.take i))+1):Nat):Int)),((((k0+cnts (x1.take i))+2):Nat):Int),((((k0+cnts (x1.take i))+3):Nat):Int),((((k0+cnts (x1.take i))+4):Nat):Int),(Mk.mkd ((k0+cnts (x1.take i))+5) b5),(Mk.mkd (((k0+cnts (x1.take i))+5)+Mk.cnt b5) b6),b7):T_Lead)),y1⟩:TL T_Lead)::_) (fun w h=>el_in (L:=(⟨some ⟨g,0,none⟩,c1,e1,((half k0 i x1).set i ((((((k0+cnts (x1.take i)):Nat):Int),((((k0+cnts (x1.take i))+1):Nat):Int)),((((k0+cnts (x1.take i))+2):Nat):Int),((((k0+cnts (x1.take i))+3):Nat):Int),((((k0+cnts (x1.take i))+4):Nat):Int),(Mk.mkd ((k0+cnts (x1.take i))+5) b5),b6,b7):T_Lead)),y1⟩:TL T_Lead)) (show (((half k0 i x1).set i ((((((k0+cnts (x1.take i)):Nat):Int),((((k0+cnts (x1.take i))+1):Nat):Int)),((((k0+cnts (x1.take i))+2):Nat):Int),((((k0+cnts (x1.take i))+3):Nat):Int),((((k0+cnts (x1.take i))+4):Nat):Int),(Mk.mkd ((k0+cnts (x1.take i))+5) b5),b6,b7):T_Lead)):List T_Lead)[i]?=some ((((((k0+cnts (x1.take i)):Nat):Int),((((k0+cnts (x1.take i))+1):Nat):Int)),((((k0+cnts (x1.take i))+2):Nat):Int),((((k0+cnts (x1.take i))+3):Nat):Int),((((k0+cnts (x1.take i))+4):Nat):Int),(Mk.mkd ((k0+cnts (x1.take i))+5) b5),b6,b7):T_Lead) from set_get (half_get (k:=k0) hu)) (by simp only [cells_pair,cells_mkTL]) h) ?_
   rw [List.set_set]
   refine s7 ?_
   refine L_binV rfl rfl rfl (bv_rem (by omega)) ?_
   refine s1 ?_
   refine L_indexAddr rfl rfl rfl el25.h rfl (by omega) ?_
   refine s1 ?_
   refine L_storeElF (fo:=7) (x':=((((((k0+cnts (x1.take i)):Nat):Int),((((k0+cnts (x1.take i))+1):Nat):Int)),((((k0+cnts (x1.take i))+2):Nat):Int),((((k0+cnts (x1.take i))+3):Nat):Int),((((k0+cnts (x1.take i))+4):Nat):Int),(Mk.mkd ((k0+cnts (x1.take i))+5) b5),(Mk.mkd (((k0+cnts (x1.take i))+5)+Mk.cnt b5) b6),(decide (((((((k0+cnts (x1.take i))+5)+Mk.cnt b5)+Mk.cnt b6):Nat):Int).tmod 3=0))):T_Lead)) rfl rfl pk rfl (show (((half k0 i x1).set i ((((((k0+cnts (x1.take i)):Nat):Int),((((k0+cnts (x1.take i))+1):Nat):Int)),((((k0+cnts (x1.take i))+2):Nat):Int),((((k0+cnts (x1.take i))+3):Nat):Int),((((k0+cnts (x1.take i))+4):Nat):Int),(Mk.mkd ((k0+cnts (x1.take i))+5) b5),(Mk.mkd (((k0+cnts (x1.take i))+5)+Mk.cnt b5) b6),b7):T_Lead)):List T_Lead)[i]?=some ((((((k0+cnts (x1.take i)):Nat):Int),((((k0+cnts (x1.take i))+1):Nat):Int)),((((k0+cnts (x1.take i))+2):Nat):Int),((((k0+cnts (x1.take i))+3):Nat):Int),((((k0+cnts (x1.take i))+4):Nat):Int),(Mk.mkd ((k0+cnts (x1.take i))+5) b5),(Mk.mkd (((k0+cnts (x1.take i))+5)+Mk.cnt b5) b6),b7):T_Lead) from set_get (half_get (k:=k0) hu)) rfl rfl (by decide) rfl (fun w h=>by exact ⟨⟨h.1.1,h.1.2⟩,h.2.1,h.2.2.1,h.2.2.2.1,h.2.2.2.2.1,h.2.2.2.2.2.1,(by exact trivial)⟩) one4.h ?_
   rw [List.set_set]
   refine s3 ?_
   refine L_binV rfl rfl rfl (bv_addR (by unfold inR;omega)) ?_
   refine s2 ?_
   rw [show ((((((k0+cnts (x1.take i))+5)+Mk.cnt b5)+Mk.cnt b6):Nat):Int)+1=(((((((k0+cnts (x1.take i))+5)+Mk.cnt b5)+Mk.cnt b6)+1):Nat):Int) from rfl]
   have hfin:((half k0 i x1).set i ((((((k0+cnts (x1.take i)):Nat):Int),((((k0+cnts (x1.take i))+1):Nat):Int)),((((k0+cnts (x1.take i))+2):Nat):Int),((((k0+cnts (x1.take i))+3):Nat):Int),((((k0+cnts (x1.take i))+4):Nat):Int),(Mk.mkd ((k0+cnts (x1.take i))+5) b5),(Mk.mkd (((k0+cnts (x1.take i))+5)+Mk.cnt b5) b6),(decide (((((((k0+cnts (x1.take i))+5)+Mk.cnt b5)+Mk.cnt b6):Nat):Int).tmod 3=0))):T_Lead))=half k0 (i+1) x1:=by
    have h9:=half_set (k:=k0) hu
    try simp only [mk_pair,mk_int,mk_str,mk_bool,cnt_pair,cnt_int,cnt_str,cnt_bool,← Nat.add_assoc] at h9
    try simp only [List.set_set]
    exact h9
   refine W_conv (M':=treeH (⟨some ⟨g,0,none⟩,c1,e1,(half k0 (i+1) x1),y1⟩:TL T_Lead)::_) (fun w h=>by rw [← hfin];exact h) ?_
   have hE:(((((k0+cnts (x1.take i))+5)+Mk.cnt b5)+Mk.cnt b6)+1)=k0+cnts (x1.take (i+1)):=by rw [hs];(try simp only [cnt_pair,cnt_int,cnt_str,cnt_bool]);omega
   rw [hE]
   refine s2 ?_
   refine L_binV rfl rfl rfl (bv_addR (by unfold inR;omega)) ?_
   refine s2 ?_
   refine ⟨i+1,sb,ms,?_,?_⟩
   ·show i+1≤x1.length
    omega
   ·show x1.length - (i+1) < x1.length - i
    omega
  ·refine W_exit ?_
   refine s6 ?_
   have hk2:x1.length≤i:=by simpa using q2
   rw [half_all k0 hk2]
   refine res1 rfl (ResOK.tmp rfl) ⟨?_,rfl⟩ ms
   have hk2:x1.length≤i:=by simpa using q2
   rw [List.take_of_length_le hk2];rfl
set_option maxHeartbeats 4000000 in
theorem heldLeadS_spec (w:World) (t1:TL T_Lead) (k0:Nat) (hk0:0 < k0) (hb:k0+Mk.cnt t1 < 9223372036854775807) (h1:GT.rd w [] (Mk.mkd k0 t1)):Spec Tryz.prog 82 [(Mk.mkd k0 t1).hdr,.int .i64 (k0:Int)].toArray w [] (IsV (.int .i64 ((k0+Mk.cnt t1:Nat):Int))):=by
 obtain ⟨a1,c1,e1,x1,y1⟩:=t1
 replace hb:k0+cnts x1 < 9223372036854775807:=hb
 have hml:=mks_length x1 k0
 have hm1:(mks k0 x1).length≤9223372036854775807:=rd_len h1
 rw [mk_TL] at h1 ⊢
 dsimp only [TL.hdr]
 refine Spec.intro Tryz.func82 rfl Tryz.ntmps82 rfl ?_
 refine s10 ?_
 refine W_loopC (σ:=Nat) 0 (fun (i:Nat)=>[(1,.int .i64 ((k0+cnts (x1.take i):Nat):Int)),(5,.int .i64 (i:Int))]) (fun (i:Nat)=>[]) (fun (i:Nat)=>i≤x1.length) (fun (i:Nat)=>x1.length - i) [(0,_)] [] ?_ sb ms ?_
 ·exact Nat.zero_le _
 ·rintro i hi
  refine kq [0,1,5] ?_
  refine s5 ?_
  refine L_lenS rfl rfl el25.h ?_
  refine s2 ?_
  refine kp [0,1,5,9] ?_
  refine W_cond rfl (fun q2=>?_) (fun q2=>?_)
  ·have hk1:i < (mks k0 x1).length:=by simpa using q2
   obtain ⟨g,o1,rfl⟩:=rd_addr h1 hk1
   obtain ⟨u,hu⟩:=getEl (show i < x1.length by omega)
   have hs:=cnts_take_succ hu
   have hle:=cnts_take_le x1 (i+1)
   have hu2:=mks_get (k:=k0) hu
   obtain ⟨⟨b11,b12⟩,b2,b3,b4,b5,b6,b7⟩:=u
   simp only [mk_pair,mk_int,mk_str,mk_bool,cnt_pair,cnt_int,cnt_str,cnt_bool,← Nat.add_assoc] at hs hu2
   refine s8 ?_
   refine L_indexAddr rfl rfl rfl el25.h rfl (by omega) ?_
   refine s2 ?_
   refine L_load (fo:=0) rfl rfl (by first | exact RdC.blk mm | exact RdC.old (Cells.el h1 rfl hu2)) one3.h rfl ?_
   refine s3 ?_
   refine kp [0,1,5,19] ?_
   refine W_cond rfl (fun q4=>?_) (fun q4=>?_)
   ·refine s5 ?_
    refine res1 rfl (ResOK.tmp rfl) ⟨?_,rfl⟩ ms
    exfalso;simp [mk_int,mk_str,mk_bool] at q4
   ·refine s4 ?_
    refine L_binV rfl rfl rfl (bv_addR (by unfold inR;omega)) ?_
    refine s2 ?_
    rw [show (((k0+cnts (x1.take i)):Nat):Int)+1=(((k0+cnts (x1.take i))+1:Nat):Int) from rfl]
    refine s5 ?_
    refine L_indexAddr rfl rfl rfl el25.h rfl (by omega) ?_
    refine s2 ?_
    refine L_load (fo:=1) rfl rfl (by first | exact RdC.blk mm | exact RdC.old (Cells.el h1 rfl hu2)) one3.h rfl ?_
    refine s3 ?_
    refine kp [0,1,5,29] ?_
    refine W_cond rfl (fun q7=>?_) (fun q7=>?_)
    ·refine s5 ?_
     refine res1 rfl (ResOK.tmp rfl) ⟨?_,rfl⟩ ms
     exfalso;simp [mk_int,mk_str,mk_bool] at q7
    ·refine s4 ?_
     refine L_binV rfl rfl rfl (bv_addR (by unfold inR;omega)) ?_
     refine s2 ?_
     rw [show ((((k0+cnts (x1.take i))+1):Nat):Int)+1=((((k0+cnts (x1.take i))+1)+1:Nat):Int) from rfl]
     refine s5 ?_
     refine L_indexAddr rfl rfl rfl el25.h rfl (by omega) ?_
     refine s1 ?_
     refine L_load rfl rfl (by first | exact RdC.blk mm | exact RdC.old (Cells.el h1 rfl hu2)) one3.h rfl ?_
     refine s3 ?_
     refine kp [0,1,5,38] ?_
     refine W_cond rfl (fun q10=>?_) (fun q10=>?_)
     ·refine s5 ?_
      refine res1 rfl (ResOK.tmp rfl) ⟨?_,rfl⟩ ms
      exfalso;simp [mk_int,mk_str,mk_bool] at q10
     ·refine s4 ?_
      refine L_binV rfl rfl rfl (bv_addR (by unfold inR;omega)) ?_
      refine s2 ?_
      rw [show (((((k0+cnts (x1.take i))+1)+1):Nat):Int)+1=(((((k0+cnts (x1.take i))+1)+1)+1:Nat):Int) from rfl]
      refine s5 ?_
      refine L_indexAddr rfl rfl rfl el25.h rfl (by omega) ?_
      refine s1 ?_
      refine L_load rfl rfl (by first | exact RdC.blk mm | exact RdC.old (Cells.el h1 rfl hu2)) one3.h rfl ?_
      refine s3 ?_
      refine kp [0,1,5,47] ?_
      refine W_cond rfl (fun q13=>?_) (fun q13=>?_)
      ·refine s5 ?_
       refine res1 rfl (ResOK.tmp rfl) ⟨?_,rfl⟩ ms
       exfalso;simp [mk_int,mk_str,mk_bool] at q13
      ·refine s4 ?_
       refine L_binV rfl rfl rfl (bv_addR (by unfold inR;omega)) ?_
       refine s2 ?_
       rw [show ((((((k0+cnts (x1.take i))+1)+1)+1):Nat):Int)+1=((((((k0+cnts (x1.take i))+1)+1)+1)+1:Nat):Int) from rfl]
       refine s5 ?_
       refine L_indexAddr rfl rfl rfl el25.h rfl (by omega) ?_
       refine s1 ?_
       refine L_load rfl rfl (by first | exact RdC.blk mm | exact RdC.old (Cells.el h1 rfl hu2)) one3.h rfl ?_
       refine s3 ?_
       refine kp [0,1,5,56] ?_
       refine W_cond rfl (fun q16=>?_) (fun q16=>?_)
       ·refine s5 ?_
        refine res1 rfl (ResOK.tmp rfl) ⟨?_,rfl⟩ ms
        exfalso;simp [mk_int,mk_str,mk_bool] at q16
       ·refine s4 ?_
        refine L_binV rfl rfl rfl (bv_addR (by unfold inR;omega)) ?_
        refine s2 ?_
        rw [show (((((((k0+cnts (x1.take i))+1)+1)+1)+1):Nat):Int)+1=(((((((k0+cnts (x1.take i))+1)+1)+1)+1)+1:Nat):Int) from rfl]
        refine s4 ?_
        refine L_indexAddr rfl rfl rfl el25.h rfl (by omega) ?_
        refine s1 ?_
        refine L_load rfl rfl (by first | exact RdC.blk mm | exact RdC.old (Cells.el h1 rfl hu2)) one33.h rfl ?_
        refine s1 ?_
        refine L_callX rfl fn84.h rfl (by exact fun w hw=>heldIdS_spec w b5 ((((((k0+cnts (x1.take i))+1)+1)+1)+1)+1) (by omega) (by omega) (rd_carry (show GT.rd _ _ (Mk.mkd ((((((k0+cnts (x1.take i))+1)+1)+1)+1)+1) b5) from by have h9:=h1.2.2.1 _ (List.mem_of_getElem? hu2);(try simp only [mk_pair,mk_int,mk_str,mk_bool,cnt_pair,cnt_int,cnt_str,cnt_bool,← Nat.add_assoc] at h9);exact h9.2.2.2.2.1) hw)) ?_
        refine s8 ?_
        refine kp [0,1,5,67] ?_
        refine W_cond rfl (fun q20=>?_) (fun q20=>?_)
        ·refine s5 ?_
         refine res1 rfl (ResOK.tmp rfl) ⟨?_,rfl⟩ ms
         exfalso;simp at q20;omega
        ·refine s5 ?_
         refine L_indexAddr rfl rfl rfl el25.h rfl (by omega) ?_
         refine s1 ?_
         refine L_load rfl rfl (by first | exact RdC.blk mm | exact RdC.old (Cells.el h1 rfl hu2)) one87.h rfl ?_
         refine s1 ?_
         refine L_callX rfl fn147.h rfl (by exact fun w hw=>heldIntS_spec w b6 (((((((k0+cnts (x1.take i))+1)+1)+1)+1)+1)+Mk.cnt b5) (by omega) (by omega) (rd_carry (show GT.rd _ _ (Mk.mkd (((((((k0+cnts (x1.take i))+1)+1)+1)+1)+1)+Mk.cnt b5) b6) from by have h9:=h1.2.2.1 _ (List.mem_of_getElem? hu2);(try simp only [mk_pair,mk_int,mk_str,mk_bool,cnt_pair,cnt_int,cnt_str,cnt_bool,← Nat.add_assoc] at h9);exact h9.2.2.2.2.2.1) hw)) ?_
         refine s8 ?_
         refine kp [0,1,5,76] ?_
         refine W_cond rfl (fun q23=>?_) (fun q23=>?_)
         ·refine s5 ?_
          refine res1 rfl (ResOK.tmp rfl) ⟨?_,rfl⟩ ms
          exfalso;simp at q23;omega
         ·refine s6 ?_
          refine L_indexAddr rfl rfl rfl el25.h rfl (by omega) ?_
          refine s1 ?_
          refine L_load rfl rfl (by first | exact RdC.blk mm | exact RdC.old (Cells.el h1 rfl hu2)) one4.h rfl ?_
          refine s1 ?_
          refine L_binV rfl rfl rfl (bv_rem (by omega)) ?_
          refine s3 ?_
          refine kp [0,1,5,85] ?_
          refine W_cond rfl (fun q25=>?_) (fun q25=>?_)
          ·refine s5 ?_
           refine res1 rfl (ResOK.tmp rfl) ⟨?_,rfl⟩ ms
           exfalso;simp [mk_int,mk_str,mk_bool] at q25
          ·refine s3 ?_
           refine L_binV rfl rfl rfl (bv_addR (by unfold inR;omega)) ?_
           refine s2 ?_
           rw [show ((((((((((k0+cnts (x1.take i))+1)+1)+1)+1)+1)+Mk.cnt b5)+Mk.cnt b6):Nat):Int)+1=((((((((((k0+cnts (x1.take i))+1)+1)+1)+1)+1)+Mk.cnt b5)+Mk.cnt b6)+1:Nat):Int) from rfl]
           have hE:(((((((((k0+cnts (x1.take i))+1)+1)+1)+1)+1)+Mk.cnt b5)+Mk.cnt b6)+1)=k0+cnts (x1.take (i+1)):=by rw [hs];(try simp only [cnt_pair,cnt_int,cnt_str,cnt_bool]);omega
           rw [hE]
           refine s2 ?_
           refine L_binV rfl rfl rfl (bv_addR (by unfold inR;omega)) ?_
           refine s2 ?_
           refine ⟨i+1,sb,ms,?_,?_⟩
           ·show i+1≤x1.length
            omega
           ·show x1.length - (i+1) < x1.length - i
            omega
  ·refine W_exit ?_
   refine s6 ?_
   refine res1 rfl (ResOK.tmp rfl) ⟨?_,rfl⟩ ms
   have hk2:(mks k0 x1).length≤i:=by simpa using q2
   rw [List.take_of_length_le (by omega)];rfl
end Go.Proofs.SL
namespace Go.Proofs.SL
open Go
set_option maxHeartbeats 2000000
instance fn76:FnF Tryz.prog 76:=⟨_,Tryz.func76,by kernel_rfl,rfl⟩
instance fn77:FnF Tryz.prog 77:=⟨_,Tryz.func77,by kernel_rfl,rfl⟩
instance fn73:FnF Tryz.prog 73:=⟨_,Tryz.func73,by kernel_rfl,rfl⟩
instance fn74:FnF Tryz.prog 74:=⟨_,Tryz.func74,by kernel_rfl,rfl⟩
instance fld56_2:FldF Tryz.prog 56 2 2:=⟨by kernel_rfl⟩
instance one53:OneF Tryz.prog 53:=⟨by kernel_rfl⟩
instance fn69:FnF Tryz.prog 69:=⟨_,Tryz.func69,by kernel_rfl,rfl⟩
instance fld56_3:FldF Tryz.prog 56 3 3:=⟨by kernel_rfl⟩
instance one54:OneF Tryz.prog 54:=⟨by kernel_rfl⟩
instance fn70:FnF Tryz.prog 70:=⟨_,Tryz.func70,by kernel_rfl,rfl⟩
instance fld56_0:FldF Tryz.prog 56 0 0:=⟨by kernel_rfl⟩
instance fld56_1:FldF Tryz.prog 56 1 1:=⟨by kernel_rfl⟩
instance fn71:FnF Tryz.prog 71:=⟨_,Tryz.func71,by kernel_rfl,rfl⟩
instance fn72:FnF Tryz.prog 72:=⟨_,Tryz.func72,by kernel_rfl,rfl⟩
instance fn81:FnF Tryz.prog 81:=⟨_,Tryz.func81,by kernel_rfl,rfl⟩
instance fn82:FnF Tryz.prog 82:=⟨_,Tryz.func82,by kernel_rfl,rfl⟩
theorem eqENode_spec (w:World) (t1 t2:T_ENode) (h1:GT.rd w [] t1) (h2:GT.rd w [] t2):Spec Tryz.prog 23 [.agg (GT.cells t1).toArray,.agg (GT.cells t2).toArray].toArray w [] (IsV (.bool (eqB (GT.dat t1) (GT.dat t2)))):=by
 obtain ⟨a1,a2,a3,a4⟩:=t1
 obtain ⟨b1,b2,b3,b4⟩:=t2
 change Spec _ _ [Value.agg #[.int .i64 a1,.int .i64 a2,a3.hdr,a4.hdr],Value.agg #[.int .i64 b1,.int .i64 b2,b3.hdr,b4.hdr]].toArray w [] _
 refine Spec.intro Tryz.func23 rfl Tryz.ntmps23 rfl ?_
 refine s2 ?_
 refine bx fun bk2=>?_
 refine bx fun bk3=>?_
 refine s6 ?_
 refine L_load rfl rfl (by first | exact RdC.blk mm) one3.h rfl ?_
 refine s1 ?_
 refine L_load rfl rfl (by first | exact RdC.blk mm) one3.h rfl ?_
 refine s2 ?_
 refine kp [2,3,9] ?_
 refine W_cond rfl (fun q1=>?_) (fun q1=>?_)
 ·refine s5 ?_
  refine res1 rfl (ResOK.tmp rfl) ⟨?_,rfl⟩ ms
  clear h1 h2
  exact eqy
 ·refine s5 ?_
  refine L_load rfl rfl (by first | exact RdC.blk mm) one3.h rfl ?_
  refine s1 ?_
  refine L_load rfl rfl (by first | exact RdC.blk mm) one3.h rfl ?_
  refine s2 ?_
  refine kp [2,3,14] ?_
  refine W_cond rfl (fun q3=>?_) (fun q3=>?_)
  ·refine s5 ?_
   refine res1 rfl (ResOK.tmp rfl) ⟨?_,rfl⟩ ms
   clear h1 h2
   exact eqy
  ·refine s5 ?_
   refine L_load rfl rfl (by first | exact RdC.blk mm) one24.h rfl ?_
   refine s1 ?_
   refine L_load rfl rfl (by first | exact RdC.blk mm) one24.h rfl ?_
   refine L_callX rfl fn73.h rfl (by exact fun w hw=>eqInstS_spec w _ _ (rd_carry (h1.2.2.1) hw) (rd_carry (h2.2.2.1) hw)) ?_
   refine s2 ?_
   refine kp [2,3,20] ?_
   refine W_cond rfl (fun q5=>?_) (fun q5=>?_)
   ·refine s5 ?_
    refine res1 rfl (ResOK.tmp rfl) ⟨?_,rfl⟩ ms
    clear h1 h2
    exact eqy
   ·refine s5 ?_
    refine L_load rfl rfl (by first | exact RdC.blk mm) one25.h rfl ?_
    refine s1 ?_
    refine L_load rfl rfl (by first | exact RdC.blk mm) one25.h rfl ?_
    refine L_callX rfl fn74.h rfl (by exact fun w hw=>eqLeadS_spec w _ _ (rd_carry (h1.2.2.2) hw) (rd_carry (h2.2.2.2) hw)) ?_
    refine s2 ?_
    refine kp [26] ?_
    refine W_cond rfl (fun q7=>?_) (fun q7=>?_)
    ·refine s5 ?_
     refine res1 rfl (ResOK.tmp rfl) ⟨?_,rfl⟩ ms
     clear h1 h2
     exact eqy
    ·refine s6 ?_
     refine res1 rfl (ResOK.tmp rfl) ⟨?_,rfl⟩ ms
     clear h1 h2
     exact eqy
theorem szENode_spec (w:World) (t1:T_ENode) (left:Int) (hl:0≤left) (hm:left≤1048576) (h1:GT.rd w [] t1) (ho:Ok.ok (GT.dat t1)):Spec Tryz.prog 20 [.agg (GT.cells t1).toArray,.int .i64 left].toArray w [] (IsV (.int .i64 (if (Bk.bulk t1:Int)≤left then left - (Bk.bulk t1:Int) else -1))):=by
 obtain ⟨a1,a2,a3,a4⟩:=t1
 change Spec _ _ [Value.agg #[.int .i64 a1,.int .i64 a2,a3.hdr,a4.hdr],.int .i64 left].toArray w [] _
 refine Spec.intro Tryz.func20 rfl Tryz.ntmps20 rfl ?_
 refine s2 ?_
 refine bx fun bk2=>?_
 refine s5 ?_
 refine L_load rfl rfl (by first | exact RdC.blk mm) one53.h rfl ?_
 refine s1 ?_
 refine L_callX rfl fn69.h rfl (by exact fun w hw=>szInstS_spec w _ (left) (by omega) (by omega) (rd_carry (h1.2.2.1) hw) ho.2.2.1) ?_
 refine s8 ?_
 refine kp [1,2,10] ?_
 refine W_cond rfl (fun q2=>?_) (fun q2=>?_)
 ·have hb2:¬ ((Bk.bulk a3:Int)≤left):=by
   intro hn
   rw [if_pos hn] at q2;simp at q2;omega
  refine s5 ?_
  refine res1 rfl (ResOK.tmp rfl) ⟨?_,rfl⟩ ms
  try simp only [bulk_pair,bulk_int,bulk_bool,bulk_str,Int.natCast_add,Int.natCast_zero] at *
  all_goals first
   | rfl
   | (rw [if_pos (by omega)]<;>(congr 1<;>omega))
   | (rw [if_neg (by omega)])
 ·have hb2:(Bk.bulk a3:Int)≤left:=by
   rcases Int.decLt (left) (Bk.bulk a3:Int) with hn | hn
   ·omega
   ·rw [if_neg (by omega)] at q2;simp at q2
  rw [if_pos hb2]
  refine s4 ?_
  refine L_load rfl rfl (by first | exact RdC.blk mm) one54.h rfl ?_
  refine s1 ?_
  refine L_callX rfl fn70.h rfl (by exact fun w hw=>szLeadS_spec w _ (left - (Bk.bulk a3:Int)) (by omega) (by omega) (rd_carry (h1.2.2.2) hw) ho.2.2.2) ?_
  refine s8 ?_
  refine kp [1,16] ?_
  refine W_cond rfl (fun q5=>?_) (fun q5=>?_)
  ·have hb3:¬ ((Bk.bulk a4:Int)≤left - (Bk.bulk a3:Int)):=by
    intro hn
    rw [if_pos hn] at q5;simp at q5;omega
   refine s5 ?_
   refine res1 rfl (ResOK.tmp rfl) ⟨?_,rfl⟩ ms
   try simp only [bulk_pair,bulk_int,bulk_bool,bulk_str,Int.natCast_add,Int.natCast_zero] at *
   all_goals first
    | rfl
    | (rw [if_pos (by omega)]<;>(congr 1<;>omega))
    | (rw [if_neg (by omega)])
  ·have hb3:(Bk.bulk a4:Int)≤left - (Bk.bulk a3:Int):=by
    rcases Int.decLt (left - (Bk.bulk a3:Int)) (Bk.bulk a4:Int) with hn | hn
    ·omega
    ·rw [if_neg (by omega)] at q5;simp at q5
   rw [if_pos hb3]
   refine s7 ?_
   refine res1 rfl (ResOK.tmp rfl) ⟨?_,rfl⟩ ms
   try simp only [bulk_pair,bulk_int,bulk_bool,bulk_str,Int.natCast_add,Int.natCast_zero] at *
   all_goals first
    | rfl
    | (rw [if_pos (by omega)]<;>(congr 1<;>omega))
    | (rw [if_neg (by omega)])
theorem toENode_spec (w:World) (t1:T_ENode) (h1:GT.rd w [] t1) (hb:Bk.bulk t1≤1048576):Spec Tryz.prog 21 [.agg (GT.cells t1).toArray].toArray w [] (fun v M=>∃ t2:T_ENode,v=.agg (GT.cells t2).toArray∧GT.dat t2=GT.dat t1∧M=[treeH t2]):=by
 obtain ⟨a1,a2,a3,a4⟩:=t1
 have hbk_2:Bk.bulk a3≤1048576:=by (try simp only [bulk_pair,bulk_int,bulk_bool,bulk_str] at hb ⊢);omega
 have hbk_3:Bk.bulk a4≤1048576:=by (try simp only [bulk_pair,bulk_int,bulk_bool,bulk_str] at hb ⊢);omega
 change Spec _ _ [Value.agg #[.int .i64 a1,.int .i64 a2,a3.hdr,a4.hdr]].toArray w [] _
 refine Spec.intro Tryz.func21 rfl Tryz.ntmps21 rfl ?_
 refine s2 ?_
 refine bx fun bk1=>?_
 refine al fun bk2=>?_
 refine s3 ?_
 refine al fun bk3=>?_
 refine s4 ?_
 refine L_load rfl rfl (by first | exact RdC.blk mm) one3.h rfl ?_
 refine s6 ?_
 refine L_load rfl rfl (by first | exact RdC.blk mm) one3.h rfl ?_
 refine s6 ?_
 refine L_load rfl rfl (by first | exact RdC.blk mm) one53.h rfl ?_
 refine L_callR rfl fn71.h rfl (by exact fun w hw=>toInstS_spec w _ (rd_carry (h1.2.2.1) hw) hbk_2) ?_
 rintro v M1 ⟨n3t,hv,hd2,rfl⟩
 subst hv
 simp only [List.cons_append,List.nil_append]
 refine s6 ?_
 refine L_load rfl rfl (by first | exact RdC.blk mm) one54.h rfl ?_
 refine L_callR rfl fn72.h rfl (by exact fun w hw=>toLeadS_spec w _ (rd_carry (h1.2.2.2) hw) hbk_3) ?_
 rintro v M1 ⟨n4t,hv,hd3,rfl⟩
 subst hv
 simp only [List.cons_append,List.nil_append]
 refine s5 ?_
 refine L_loadW rfl rfl (by first | exact RdC.blk mm) (by exact agg27.h) ?_
 refine L_storeW rfl rfl pk (by exact agg27.h) (by rfl) (by first | (simp [Value.oneCell',TL.hdr];done) | (simp [Value.oneCell',TL.hdr,Value.cells];done) | exact fun v hv=>GT.one _ v hv) ?_
 refine s1 ?_
 refine W_conv (M':=treeH n4t::_) (fun w h=>frontPick pk h) ?_
 refine W_conv (M':=treeH (n3t,n4t)::_) (fun w h=>pairPick pk h) ?_
 refine W_conv (M':=treeH (a2,n3t,n4t)::_) (fun w h=>tree_snd (flat_int (h1.2.1)) h) ?_
 refine W_conv (M':=treeH (a1,a2,n3t,n4t)::_) (fun w h=>tree_snd (flat_int (h1.1)) h) ?_
 refine s1 ?_
 refine res1 rfl (ResOK.cell rfl mm (by exact agg27.h)) ⟨(a1,a2,n3t,n4t),rfl,by simp only [dat_pair,hd2,hd3],rfl⟩ ms
theorem markENode_spec (w:World) (t1:T_ENode) (k0:Nat) (hk0:0 < k0) (hb:k0+Mv.cnt t1 < 9223372036854775807):Spec Tryz.prog 25 [.agg (GT.cells t1).toArray,.int .i64 (k0:Int)].toArray w [treeH t1] (fun v M=>v=.int .i64 ((k0+Mv.cnt t1:Nat):Int)∧M=[treeH (Mv.mkd k0 t1)]):=by
 obtain ⟨a1,a2,a3,a4⟩:=t1
 simp only [mv_cnt_pair,mv_cnt_int,mv_cnt_bool,mv_cnt_str,mv_cnt_TL,mv_pair,mv_int,mv_bool,mv_str,mv_TL,Nat.zero_add,Nat.add_zero,← Nat.add_assoc] at hb ⊢
 change Spec _ _ [Value.agg #[.int .i64 a1,.int .i64 a2,a3.hdr,a4.hdr],.int .i64 (k0:Int)].toArray w _ _
 refine Spec.intro Tryz.func25 rfl Tryz.ntmps25 rfl ?_
 refine s2 ?_
 refine bx fun bk2=>?_
 refine s5 ?_
 refine L_load rfl rfl (by first | exact RdC.blk mm) one24.h rfl ?_
 refine s1 ?_
 refine L_conv (fun w h=>show Holds _ _ _ w from (tree_pair (frontPick (Pick.there _ (Pick.here _)) (tree_pair (frontPick (Pick.there _ (Pick.here _)) (tree_pair (frontPick (x:=treeH ((a1,a2,a3,a4):T_ENode)) pk h))))))) ?_
 refine L_call1 rfl fn76.h rfl (Pick.here _) (by exact fun w hw=>markInstS_spec w a3 (k0) (by omega) (by first | omega | (simp only [mv_cnt_TL];omega))) ?_
 rintro v M1 ⟨hv,rfl⟩
 subst hv
 simp only [List.cons_append,List.nil_append]
 refine L_conv (M':=treeH ((a1,a2,(Mk.mkd k0 a3),a4):T_ENode)::_) (fun w h=>(pairPick (Pick.here _) (pairPick (Pick.here _) (pairFront (Pick.here _) h)))) ?_
 refine s5 ?_
 refine L_load rfl rfl (by first | exact RdC.blk mm) one25.h rfl ?_
 refine s1 ?_
 refine L_conv (fun w h=>show Holds _ _ _ w from (frontPick (Pick.there _ (Pick.here _)) (tree_pair (frontPick (Pick.there _ (Pick.here _)) (tree_pair (frontPick (Pick.there _ (Pick.here _)) (tree_pair (frontPick (x:=treeH ((a1,a2,(Mk.mkd k0 a3),a4):T_ENode)) pk h)))))))) ?_
 refine L_call1 rfl fn77.h rfl (Pick.here _) (by exact fun w hw=>markLeadS_spec w a4 (k0+Mk.cnt a3) (by omega) (by first | omega | (simp only [mv_cnt_TL];omega))) ?_
 rintro v M1 ⟨hv,rfl⟩
 subst hv
 simp only [List.cons_append,List.nil_append]
 refine L_conv (M':=treeH ((a1,a2,(Mk.mkd k0 a3),(Mk.mkd (k0+Mk.cnt a3) a4)):T_ENode)::_) (fun w h=>(pairPick (Pick.here _) (pairPick (Pick.here _) (pairPick (Pick.here _) h)))) ?_
 refine s8 ?_
 refine res1 rfl (ResOK.tmp rfl) ⟨rfl,rfl⟩ ms
theorem heldENode_spec (w:World) (t1:T_ENode) (k0:Nat) (hk0:0 < k0) (hb:k0+Mv.cnt t1 < 9223372036854775807) (h1:GT.rd w [] (Mv.mkd k0 t1)):Spec Tryz.prog 27 [.agg (GT.cells (Mv.mkd k0 t1)).toArray,.int .i64 (k0:Int)].toArray w [] (IsV (.int .i64 ((k0+Mv.cnt t1:Nat):Int))):=by
 obtain ⟨a1,a2,a3,a4⟩:=t1
 simp only [mv_cnt_pair,mv_cnt_int,mv_cnt_bool,mv_cnt_str,mv_cnt_TL,mv_pair,mv_int,mv_bool,mv_str,mv_TL,Nat.zero_add,Nat.add_zero,← Nat.add_assoc] at hb h1 ⊢
 refine Spec.intro Tryz.func27 rfl Tryz.ntmps27 rfl ?_
 refine s2 ?_
 refine bx fun bk2=>?_
 refine s5 ?_
 refine L_load rfl rfl (by first | exact RdC.blk mm) one24.h rfl ?_
 refine s1 ?_
 refine L_callX rfl fn81.h rfl (by exact fun w hw=>heldInstS_spec w a3 (k0) (by omega) (by first | omega | (simp only [mv_cnt_TL];omega)) (rd_carry h1.2.2.1 hw)) ?_
 refine s8 ?_
 refine kp [1,2,10] ?_
 refine W_cond rfl (fun q2=>?_) (fun q2=>?_)
 ·refine s5 ?_
  refine res1 rfl (ResOK.tmp rfl) ⟨?_,rfl⟩ ms
  exfalso;simp at q2;omega
 ·refine s4 ?_
  refine L_load rfl rfl (by first | exact RdC.blk mm) one25.h rfl ?_
  refine s1 ?_
  refine L_callX rfl fn82.h rfl (by exact fun w hw=>heldLeadS_spec w a4 (k0+Mk.cnt a3) (by omega) (by first | omega | (simp only [mv_cnt_TL];omega)) (rd_carry h1.2.2.2 hw)) ?_
  refine s8 ?_
  refine kp [1,16] ?_
  refine W_cond rfl (fun q5=>?_) (fun q5=>?_)
  ·refine s5 ?_
   refine res1 rfl (ResOK.tmp rfl) ⟨?_,rfl⟩ ms
   exfalso;simp at q5;omega
  ·refine s7 ?_
   refine res1 rfl (ResOK.tmp rfl) ⟨?_,rfl⟩ ms
   rfl
end Go.Proofs.SL
