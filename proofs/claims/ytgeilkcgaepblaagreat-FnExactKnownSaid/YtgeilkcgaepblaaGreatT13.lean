/- The texts of the proof, part 13: the base, walks of functions, plain Lean. -/
import Derived.Test.YtgeilkcgaepblaaGreatRows
import Derived.Test.YtgeilkcgaepblaaGreatT12
import Derived.Test.YtgeilkcgaepblaaGreatT4
import Derived.Test.YtgeilkcgaepblaaGreatT10
namespace Go.Proofs.SL
open Go
set_option maxHeartbeats 2000000
instance fld68_5 : FldF Tryz.prog 68 5 6 := ⟨by kernel_rfl⟩
instance fld68_7 : FldF Tryz.prog 68 7 15 := ⟨by kernel_rfl⟩
instance fld68_0 : FldF Tryz.prog 68 0 0 := ⟨by kernel_rfl⟩
instance fld68_1 : FldF Tryz.prog 68 1 1 := ⟨by kernel_rfl⟩
instance fld68_2 : FldF Tryz.prog 68 2 2 := ⟨by kernel_rfl⟩
instance fld68_3 : FldF Tryz.prog 68 3 3 := ⟨by kernel_rfl⟩
instance fld68_4 : FldF Tryz.prog 68 4 5 := ⟨by kernel_rfl⟩
instance fld68_6 : FldF Tryz.prog 68 6 14 := ⟨by kernel_rfl⟩
instance fld68_8 : FldF Tryz.prog 68 8 16 := ⟨by kernel_rfl⟩
instance fld68_9 : FldF Tryz.prog 68 9 17 := ⟨by kernel_rfl⟩
instance fld68_10 : FldF Tryz.prog 68 10 18 := ⟨by kernel_rfl⟩
instance fn47 : FnF Tryz.prog 47 := ⟨⟨_, Tryz.func47, by kernel_rfl, rfl⟩⟩
instance el23 : ElF Tryz.prog 23 68 19 208 [.int .i64 0, .int .i64 0, .int .i64 0, .int .i64 0, .int .i64 0, .int .i64 0, .int .i64 0, .int .i64 0, .int .i64 0, .string ByteArray.empty, .string ByteArray.empty, .string ByteArray.empty, .int .i64 0, .slice none 0 0, .int .i64 0, .slice none 0 0, .int .i64 0, .int .i64 0, .bool false] := ⟨by kernel_rfl⟩
instance agg68 : AggF Tryz.prog 68 19 := ⟨by kernel_rfl⟩
instance fn31 : FnF Tryz.prog 31 := ⟨⟨_, Tryz.func31, by kernel_rfl, rfl⟩⟩
instance fn39 : FnF Tryz.prog 39 := ⟨⟨_, Tryz.func39, by kernel_rfl, rfl⟩⟩
theorem eqEMsg_spec (w : World) (t1 t2 : T_EMsg) (h1 : GT.rd w [] t1) (h2 : GT.rd w [] t2) : Spec Tryz.prog 47 [.agg (GT.cells t1).toArray, .agg (GT.cells t2).toArray].toArray w [] (IsV (.bool (eqB (GT.dat t1) (GT.dat t2)))) := by
  obtain ⟨a1, a2, a3, ⟨a41, a42⟩, a5, ⟨a61, a62, a63, a64, a65, a66, a67, a68⟩, a7, a8, a9, a10, a11⟩ := t1
  obtain ⟨b1, b2, b3, ⟨b41, b42⟩, b5, ⟨b61, b62, b63, b64, b65, b66, b67, b68⟩, b7, b8, b9, b10, b11⟩ := t2
  change Spec _ _ [Value.agg #[.int .i64 a1, .int .i64 a2, .int .i64 a3, .int .i64 a41, .int .i64 a42, .int .i64 a5, .int .i64 a61, .int .i64 a62, .int .i64 a63, .string a64, .string a65, .string a66, .int .i64 a67, a68.hdr, .int .i64 a7, a8.hdr, .int .i64 a9, .int .i64 a10, .bool a11], Value.agg #[.int .i64 b1, .int .i64 b2, .int .i64 b3, .int .i64 b41, .int .i64 b42, .int .i64 b5, .int .i64 b61, .int .i64 b62, .int .i64 b63, .string b64, .string b65, .string b66, .int .i64 b67, b68.hdr, .int .i64 b7, b8.hdr, .int .i64 b9, .int .i64 b10, .bool b11]].toArray w [] _
  refine Spec.intro Tryz.func47 rfl Tryz.ntmps47 rfl ?_
  refine s2 ?_
  refine bx fun bk2 => ?_
  refine bx fun bk3 => ?_
  refine s6 ?_
  refine L_load rfl rfl (by first | exact RdC.blk mm) one3.h rfl ?_
  refine s1 ?_
  refine L_load rfl rfl (by first | exact RdC.blk mm) one3.h rfl ?_
  refine s2 ?_
  refine kp [2, 3, 9] ?_
  refine W_cond rfl (fun hc1 => ?_) (fun hc1 => ?_)
  · refine s5 ?_
    -- return 1 (R2)
    refine res1 rfl (ResOK.tmp rfl) ⟨?_, rfl⟩ ms
    clear h1 h2
    first
      | (refine congrArg Value.bool (Eq.symm (eqB_false.2 fun e => ?_)); simp only [dat_pair, dat_int, dat_bool, dat_str, Prod.mk.injEq, eqB_nf, eqB_nt] at *; simp_all; done)
      | (refine congrArg Value.bool (Eq.symm (eqB_true.2 ?_)); simp only [dat_pair, dat_int, dat_bool, dat_str, Prod.mk.injEq, eqB_nf, eqB_nt] at *; simp_all; done)
      | (refine congrArg Value.bool (Eq.symm (eqB_false.2 fun e => ?_)); try simp only [dat_pair, dat_int, dat_bool, dat_str, Prod.mk.injEq] at e; simp_all; done)
      | (refine congrArg Value.bool (Eq.symm (eqB_true.2 ?_)); try simp only [dat_pair, dat_int, dat_bool, dat_str, Prod.mk.injEq]; simp_all; done)
  · refine s5 ?_
    refine L_load rfl rfl (by first | exact RdC.blk mm) one3.h rfl ?_
    refine s1 ?_
    refine L_load rfl rfl (by first | exact RdC.blk mm) one3.h rfl ?_
    refine s2 ?_
    refine kp [2, 3, 14] ?_
    refine W_cond rfl (fun hc3 => ?_) (fun hc3 => ?_)
    · refine s5 ?_
      -- return 2 (R4)
      refine res1 rfl (ResOK.tmp rfl) ⟨?_, rfl⟩ ms
      clear h1 h2
      first
        | (refine congrArg Value.bool (Eq.symm (eqB_false.2 fun e => ?_)); simp only [dat_pair, dat_int, dat_bool, dat_str, Prod.mk.injEq, eqB_nf, eqB_nt] at *; simp_all; done)
        | (refine congrArg Value.bool (Eq.symm (eqB_true.2 ?_)); simp only [dat_pair, dat_int, dat_bool, dat_str, Prod.mk.injEq, eqB_nf, eqB_nt] at *; simp_all; done)
        | (refine congrArg Value.bool (Eq.symm (eqB_false.2 fun e => ?_)); try simp only [dat_pair, dat_int, dat_bool, dat_str, Prod.mk.injEq] at e; simp_all; done)
        | (refine congrArg Value.bool (Eq.symm (eqB_true.2 ?_)); try simp only [dat_pair, dat_int, dat_bool, dat_str, Prod.mk.injEq]; simp_all; done)
    · refine s5 ?_
      refine L_load rfl rfl (by first | exact RdC.blk mm) one3.h rfl ?_
      refine s1 ?_
      refine L_load rfl rfl (by first | exact RdC.blk mm) one3.h rfl ?_
      refine s2 ?_
      refine kp [2, 3, 19] ?_
      refine W_cond rfl (fun hc5 => ?_) (fun hc5 => ?_)
      · refine s5 ?_
        -- return 3 (R6)
        refine res1 rfl (ResOK.tmp rfl) ⟨?_, rfl⟩ ms
        clear h1 h2
        first
          | (refine congrArg Value.bool (Eq.symm (eqB_false.2 fun e => ?_)); simp only [dat_pair, dat_int, dat_bool, dat_str, Prod.mk.injEq, eqB_nf, eqB_nt] at *; simp_all; done)
          | (refine congrArg Value.bool (Eq.symm (eqB_true.2 ?_)); simp only [dat_pair, dat_int, dat_bool, dat_str, Prod.mk.injEq, eqB_nf, eqB_nt] at *; simp_all; done)
          | (refine congrArg Value.bool (Eq.symm (eqB_false.2 fun e => ?_)); try simp only [dat_pair, dat_int, dat_bool, dat_str, Prod.mk.injEq] at e; simp_all; done)
          | (refine congrArg Value.bool (Eq.symm (eqB_true.2 ?_)); try simp only [dat_pair, dat_int, dat_bool, dat_str, Prod.mk.injEq]; simp_all; done)
      · refine s5 ?_
        refine L_loadW rfl rfl (RdC.seg (by first | exact RdC.blk mm) 3 2 rfl) (by exact agg71.h) ?_
        refine s1 ?_
        refine L_loadW rfl rfl (RdC.seg (by first | exact RdC.blk mm) 3 2 rfl) (by exact agg71.h) ?_
        refine L_callX rfl fn91.h rfl (by exact fun w hw => eqId_spec w (a41, a42) (b41, b42) (rd_carry (h1.2.2.2.1) hw) (rd_carry (h2.2.2.2.1) hw)) ?_
        refine s2 ?_
        refine kp [2, 3, 25] ?_
        refine W_cond rfl (fun hc7 => ?_) (fun hc7 => ?_)
        · refine s5 ?_
          -- return 4 (R8)
          refine res1 rfl (ResOK.tmp rfl) ⟨?_, rfl⟩ ms
          clear h1 h2
          first
            | (refine congrArg Value.bool (Eq.symm (eqB_false.2 fun e => ?_)); simp only [dat_pair, dat_int, dat_bool, dat_str, Prod.mk.injEq, eqB_nf, eqB_nt] at *; simp_all; done)
            | (refine congrArg Value.bool (Eq.symm (eqB_true.2 ?_)); simp only [dat_pair, dat_int, dat_bool, dat_str, Prod.mk.injEq, eqB_nf, eqB_nt] at *; simp_all; done)
            | (refine congrArg Value.bool (Eq.symm (eqB_false.2 fun e => ?_)); try simp only [dat_pair, dat_int, dat_bool, dat_str, Prod.mk.injEq] at e; simp_all; done)
            | (refine congrArg Value.bool (Eq.symm (eqB_true.2 ?_)); try simp only [dat_pair, dat_int, dat_bool, dat_str, Prod.mk.injEq]; simp_all; done)
        · refine s5 ?_
          refine L_load rfl rfl (by first | exact RdC.blk mm) one3.h rfl ?_
          refine s1 ?_
          refine L_load rfl rfl (by first | exact RdC.blk mm) one3.h rfl ?_
          refine s2 ?_
          refine kp [2, 3, 30] ?_
          refine W_cond rfl (fun hc9 => ?_) (fun hc9 => ?_)
          · refine s5 ?_
            -- return 5 (R10)
            refine res1 rfl (ResOK.tmp rfl) ⟨?_, rfl⟩ ms
            clear h1 h2
            first
              | (refine congrArg Value.bool (Eq.symm (eqB_false.2 fun e => ?_)); simp only [dat_pair, dat_int, dat_bool, dat_str, Prod.mk.injEq, eqB_nf, eqB_nt] at *; simp_all; done)
              | (refine congrArg Value.bool (Eq.symm (eqB_true.2 ?_)); simp only [dat_pair, dat_int, dat_bool, dat_str, Prod.mk.injEq, eqB_nf, eqB_nt] at *; simp_all; done)
              | (refine congrArg Value.bool (Eq.symm (eqB_false.2 fun e => ?_)); try simp only [dat_pair, dat_int, dat_bool, dat_str, Prod.mk.injEq] at e; simp_all; done)
              | (refine congrArg Value.bool (Eq.symm (eqB_true.2 ?_)); try simp only [dat_pair, dat_int, dat_bool, dat_str, Prod.mk.injEq]; simp_all; done)
          · refine s5 ?_
            refine L_loadW rfl rfl (RdC.seg (by first | exact RdC.blk mm) 6 8 rfl) (by exact agg72.h) ?_
            refine s1 ?_
            refine L_loadW rfl rfl (RdC.seg (by first | exact RdC.blk mm) 6 8 rfl) (by exact agg72.h) ?_
            refine L_callX rfl fn92.h rfl (by exact fun w hw => eqCmd_spec w (a61, a62, a63, a64, a65, a66, a67, a68) (b61, b62, b63, b64, b65, b66, b67, b68) (rd_carry (h1.2.2.2.2.2.1) hw) (rd_carry (h2.2.2.2.2.2.1) hw)) ?_
            refine s2 ?_
            refine kp [2, 3, 36] ?_
            refine W_cond rfl (fun hc11 => ?_) (fun hc11 => ?_)
            · refine s5 ?_
              -- return 6 (R12)
              refine res1 rfl (ResOK.tmp rfl) ⟨?_, rfl⟩ ms
              clear h1 h2
              first
                | (refine congrArg Value.bool (Eq.symm (eqB_false.2 fun e => ?_)); simp only [dat_pair, dat_int, dat_bool, dat_str, Prod.mk.injEq, eqB_nf, eqB_nt] at *; simp_all; done)
                | (refine congrArg Value.bool (Eq.symm (eqB_true.2 ?_)); simp only [dat_pair, dat_int, dat_bool, dat_str, Prod.mk.injEq, eqB_nf, eqB_nt] at *; simp_all; done)
                | (refine congrArg Value.bool (Eq.symm (eqB_false.2 fun e => ?_)); try simp only [dat_pair, dat_int, dat_bool, dat_str, Prod.mk.injEq] at e; simp_all; done)
                | (refine congrArg Value.bool (Eq.symm (eqB_true.2 ?_)); try simp only [dat_pair, dat_int, dat_bool, dat_str, Prod.mk.injEq]; simp_all; done)
            · refine s5 ?_
              refine L_load rfl rfl (by first | exact RdC.blk mm) one3.h rfl ?_
              refine s1 ?_
              refine L_load rfl rfl (by first | exact RdC.blk mm) one3.h rfl ?_
              refine s2 ?_
              refine kp [2, 3, 41] ?_
              refine W_cond rfl (fun hc13 => ?_) (fun hc13 => ?_)
              · refine s5 ?_
                -- return 7 (R14)
                refine res1 rfl (ResOK.tmp rfl) ⟨?_, rfl⟩ ms
                clear h1 h2
                first
                  | (refine congrArg Value.bool (Eq.symm (eqB_false.2 fun e => ?_)); simp only [dat_pair, dat_int, dat_bool, dat_str, Prod.mk.injEq, eqB_nf, eqB_nt] at *; simp_all; done)
                  | (refine congrArg Value.bool (Eq.symm (eqB_true.2 ?_)); simp only [dat_pair, dat_int, dat_bool, dat_str, Prod.mk.injEq, eqB_nf, eqB_nt] at *; simp_all; done)
                  | (refine congrArg Value.bool (Eq.symm (eqB_false.2 fun e => ?_)); try simp only [dat_pair, dat_int, dat_bool, dat_str, Prod.mk.injEq] at e; simp_all; done)
                  | (refine congrArg Value.bool (Eq.symm (eqB_true.2 ?_)); try simp only [dat_pair, dat_int, dat_bool, dat_str, Prod.mk.injEq]; simp_all; done)
              · refine s5 ?_
                refine L_load rfl rfl (by first | exact RdC.blk mm) one51.h rfl ?_
                refine s1 ?_
                refine L_load rfl rfl (by first | exact RdC.blk mm) one51.h rfl ?_
                refine L_callX rfl fn93.h rfl (by exact fun w hw => eqIdS_spec w _ _ (rd_carry (h1.2.2.2.2.2.2.2.1) hw) (rd_carry (h2.2.2.2.2.2.2.2.1) hw)) ?_
                refine s2 ?_
                refine kp [2, 3, 47] ?_
                refine W_cond rfl (fun hc15 => ?_) (fun hc15 => ?_)
                · refine s5 ?_
                  -- return 8 (R16)
                  refine res1 rfl (ResOK.tmp rfl) ⟨?_, rfl⟩ ms
                  clear h1 h2
                  first
                    | (refine congrArg Value.bool (Eq.symm (eqB_false.2 fun e => ?_)); simp only [dat_pair, dat_int, dat_bool, dat_str, Prod.mk.injEq, eqB_nf, eqB_nt] at *; simp_all; done)
                    | (refine congrArg Value.bool (Eq.symm (eqB_true.2 ?_)); simp only [dat_pair, dat_int, dat_bool, dat_str, Prod.mk.injEq, eqB_nf, eqB_nt] at *; simp_all; done)
                    | (refine congrArg Value.bool (Eq.symm (eqB_false.2 fun e => ?_)); try simp only [dat_pair, dat_int, dat_bool, dat_str, Prod.mk.injEq] at e; simp_all; done)
                    | (refine congrArg Value.bool (Eq.symm (eqB_true.2 ?_)); try simp only [dat_pair, dat_int, dat_bool, dat_str, Prod.mk.injEq]; simp_all; done)
                · refine s5 ?_
                  refine L_load rfl rfl (by first | exact RdC.blk mm) one3.h rfl ?_
                  refine s1 ?_
                  refine L_load rfl rfl (by first | exact RdC.blk mm) one3.h rfl ?_
                  refine s2 ?_
                  refine kp [2, 3, 52] ?_
                  refine W_cond rfl (fun hc17 => ?_) (fun hc17 => ?_)
                  · refine s5 ?_
                    -- return 9 (R18)
                    refine res1 rfl (ResOK.tmp rfl) ⟨?_, rfl⟩ ms
                    clear h1 h2
                    first
                      | (refine congrArg Value.bool (Eq.symm (eqB_false.2 fun e => ?_)); simp only [dat_pair, dat_int, dat_bool, dat_str, Prod.mk.injEq, eqB_nf, eqB_nt] at *; simp_all; done)
                      | (refine congrArg Value.bool (Eq.symm (eqB_true.2 ?_)); simp only [dat_pair, dat_int, dat_bool, dat_str, Prod.mk.injEq, eqB_nf, eqB_nt] at *; simp_all; done)
                      | (refine congrArg Value.bool (Eq.symm (eqB_false.2 fun e => ?_)); try simp only [dat_pair, dat_int, dat_bool, dat_str, Prod.mk.injEq] at e; simp_all; done)
                      | (refine congrArg Value.bool (Eq.symm (eqB_true.2 ?_)); try simp only [dat_pair, dat_int, dat_bool, dat_str, Prod.mk.injEq]; simp_all; done)
                  · refine s5 ?_
                    refine L_load rfl rfl (by first | exact RdC.blk mm) one3.h rfl ?_
                    refine s1 ?_
                    refine L_load rfl rfl (by first | exact RdC.blk mm) one3.h rfl ?_
                    refine s2 ?_
                    refine kp [2, 3, 57] ?_
                    refine W_cond rfl (fun hc19 => ?_) (fun hc19 => ?_)
                    · refine s5 ?_
                      -- return 10 (R20)
                      refine res1 rfl (ResOK.tmp rfl) ⟨?_, rfl⟩ ms
                      clear h1 h2
                      first
                        | (refine congrArg Value.bool (Eq.symm (eqB_false.2 fun e => ?_)); simp only [dat_pair, dat_int, dat_bool, dat_str, Prod.mk.injEq, eqB_nf, eqB_nt] at *; simp_all; done)
                        | (refine congrArg Value.bool (Eq.symm (eqB_true.2 ?_)); simp only [dat_pair, dat_int, dat_bool, dat_str, Prod.mk.injEq, eqB_nf, eqB_nt] at *; simp_all; done)
                        | (refine congrArg Value.bool (Eq.symm (eqB_false.2 fun e => ?_)); try simp only [dat_pair, dat_int, dat_bool, dat_str, Prod.mk.injEq] at e; simp_all; done)
                        | (refine congrArg Value.bool (Eq.symm (eqB_true.2 ?_)); try simp only [dat_pair, dat_int, dat_bool, dat_str, Prod.mk.injEq]; simp_all; done)
                    · refine s5 ?_
                      refine L_load rfl rfl (by first | exact RdC.blk mm) one4.h rfl ?_
                      refine s1 ?_
                      refine L_load rfl rfl (by first | exact RdC.blk mm) one4.h rfl ?_
                      refine s2 ?_
                      refine kp [62] ?_
                      refine W_cond rfl (fun hc21 => ?_) (fun hc21 => ?_)
                      · refine s5 ?_
                        -- return 11 (R22)
                        refine res1 rfl (ResOK.tmp rfl) ⟨?_, rfl⟩ ms
                        clear h1 h2
                        first
                          | (refine congrArg Value.bool (Eq.symm (eqB_false.2 fun e => ?_)); simp only [dat_pair, dat_int, dat_bool, dat_str, Prod.mk.injEq, eqB_nf, eqB_nt] at *; simp_all; done)
                          | (refine congrArg Value.bool (Eq.symm (eqB_true.2 ?_)); simp only [dat_pair, dat_int, dat_bool, dat_str, Prod.mk.injEq, eqB_nf, eqB_nt] at *; simp_all; done)
                          | (refine congrArg Value.bool (Eq.symm (eqB_false.2 fun e => ?_)); try simp only [dat_pair, dat_int, dat_bool, dat_str, Prod.mk.injEq] at e; simp_all; done)
                          | (refine congrArg Value.bool (Eq.symm (eqB_true.2 ?_)); try simp only [dat_pair, dat_int, dat_bool, dat_str, Prod.mk.injEq]; simp_all; done)
                      · refine s6 ?_
                        -- return 12 (R23)
                        refine res1 rfl (ResOK.tmp rfl) ⟨?_, rfl⟩ ms
                        clear h1 h2
                        first
                          | (refine congrArg Value.bool (Eq.symm (eqB_false.2 fun e => ?_)); simp only [dat_pair, dat_int, dat_bool, dat_str, Prod.mk.injEq, eqB_nf, eqB_nt] at *; simp_all; done)
                          | (refine congrArg Value.bool (Eq.symm (eqB_true.2 ?_)); simp only [dat_pair, dat_int, dat_bool, dat_str, Prod.mk.injEq, eqB_nf, eqB_nt] at *; simp_all; done)
                          | (refine congrArg Value.bool (Eq.symm (eqB_false.2 fun e => ?_)); try simp only [dat_pair, dat_int, dat_bool, dat_str, Prod.mk.injEq] at e; simp_all; done)
                          | (refine congrArg Value.bool (Eq.symm (eqB_true.2 ?_)); try simp only [dat_pair, dat_int, dat_bool, dat_str, Prod.mk.injEq]; simp_all; done)
theorem szEMsg_spec (w : World) (t1 : T_EMsg) (left : Int) (hl : 0 ≤ left) (hm : left ≤ 1048576) (h1 : GT.rd w [] t1) (ho : Ok.ok (GT.dat t1)) : Spec Tryz.prog 31 [.agg (GT.cells t1).toArray, .int .i64 left].toArray w [] (IsV (.int .i64 (if (Bk.bulk t1 : Int) ≤ left then left - (Bk.bulk t1 : Int) else -1))) := by
  obtain ⟨a1, a2, a3, ⟨a41, a42⟩, a5, ⟨a61, a62, a63, a64, a65, a66, a67, a68⟩, a7, a8, a9, a10, a11⟩ := t1
  change Spec _ _ [Value.agg #[.int .i64 a1, .int .i64 a2, .int .i64 a3, .int .i64 a41, .int .i64 a42, .int .i64 a5, .int .i64 a61, .int .i64 a62, .int .i64 a63, .string a64, .string a65, .string a66, .int .i64 a67, a68.hdr, .int .i64 a7, a8.hdr, .int .i64 a9, .int .i64 a10, .bool a11], .int .i64 left].toArray w [] _
  refine Spec.intro Tryz.func31 rfl Tryz.ntmps31 rfl ?_
  refine s2 ?_
  refine bx fun bk2 => ?_
  refine s5 ?_
  refine L_loadW rfl rfl (RdC.seg (by first | exact RdC.blk mm) 6 8 rfl) (by exact agg65.h) ?_
  refine s1 ?_
  refine L_callX rfl fn57.h rfl (by exact fun w hw => szCmd_spec w (a61, a62, a63, a64, a65, a66, a67, a68) (left) (by omega) (by omega) (rd_carry (h1.2.2.2.2.2.1) hw) ho.2.2.2.2.2.1) ?_
  refine s8 ?_
  refine kp [1, 2, 10] ?_
  refine W_cond rfl (fun hc2 => ?_) (fun hc2 => ?_)
  · have hb5 : ¬ ((Bk.bulk (a61, a62, a63, a64, a65, a66, a67, a68) : Int) ≤ left) := by
      intro hn
      rw [if_pos hn] at hc2; simp at hc2; omega
    refine s5 ?_
    -- return 1 (R3)
    refine res1 rfl (ResOK.tmp rfl) ⟨?_, rfl⟩ ms
    try simp only [bulk_pair, bulk_int, bulk_bool, bulk_str, Int.natCast_add, Int.natCast_zero] at *
    all_goals first
      | rfl
      | (rw [if_pos (by omega)] <;> (congr 1 <;> omega))
      | (rw [if_neg (by omega)])
  · have hb5 : (Bk.bulk (a61, a62, a63, a64, a65, a66, a67, a68) : Int) ≤ left := by
      rcases Int.decLt (left) (Bk.bulk (a61, a62, a63, a64, a65, a66, a67, a68) : Int) with hn | hn
      · omega
      · rw [if_neg (by omega)] at hc2; simp at hc2
    rw [if_pos hb5]
    refine s4 ?_
    refine L_load rfl rfl (by first | exact RdC.blk mm) one66.h rfl ?_
    refine s1 ?_
    refine L_callX rfl fn58.h rfl (by exact fun w hw => szIdS_spec w _ (left - (Bk.bulk (a61, a62, a63, a64, a65, a66, a67, a68) : Int)) (by omega) (by omega) (rd_carry (h1.2.2.2.2.2.2.2.1) hw) ho.2.2.2.2.2.2.2.1) ?_
    refine s8 ?_
    refine kp [1, 16] ?_
    refine W_cond rfl (fun hc5 => ?_) (fun hc5 => ?_)
    · have hb7 : ¬ ((Bk.bulk a8 : Int) ≤ left - (Bk.bulk (a61, a62, a63, a64, a65, a66, a67, a68) : Int)) := by
        intro hn
        rw [if_pos hn] at hc5; simp at hc5; omega
      refine s5 ?_
      -- return 2 (R6)
      refine res1 rfl (ResOK.tmp rfl) ⟨?_, rfl⟩ ms
      try simp only [bulk_pair, bulk_int, bulk_bool, bulk_str, Int.natCast_add, Int.natCast_zero] at *
      all_goals first
        | rfl
        | (rw [if_pos (by omega)] <;> (congr 1 <;> omega))
        | (rw [if_neg (by omega)])
    · have hb7 : (Bk.bulk a8 : Int) ≤ left - (Bk.bulk (a61, a62, a63, a64, a65, a66, a67, a68) : Int) := by
        rcases Int.decLt (left - (Bk.bulk (a61, a62, a63, a64, a65, a66, a67, a68) : Int)) (Bk.bulk a8 : Int) with hn | hn
        · omega
        · rw [if_neg (by omega)] at hc5; simp at hc5
      rw [if_pos hb7]
      refine s7 ?_
      -- return 3 (R7)
      refine res1 rfl (ResOK.tmp rfl) ⟨?_, rfl⟩ ms
      try simp only [bulk_pair, bulk_int, bulk_bool, bulk_str, Int.natCast_add, Int.natCast_zero] at *
      all_goals first
        | rfl
        | (rw [if_pos (by omega)] <;> (congr 1 <;> omega))
        | (rw [if_neg (by omega)])
theorem toEMsg_spec (w : World) (t1 : T_EMsg) (h1 : GT.rd w [] t1) (hb : Bk.bulk t1 ≤ 1048576) : Spec Tryz.prog 39 [.agg (GT.cells t1).toArray].toArray w [] (fun v M => ∃ t2 : T_EMsg, v = .agg (GT.cells t2).toArray ∧ GT.dat t2 = GT.dat t1 ∧ M = [treeH t2]) := by
  obtain ⟨a1, a2, a3, ⟨a41, a42⟩, a5, ⟨a61, a62, a63, a64, a65, a66, a67, a68⟩, a7, a8, a9, a10, a11⟩ := t1
  have hbk_3 : Bk.bulk (a41, a42) ≤ 1048576 := by (try simp only [bulk_pair, bulk_int, bulk_bool, bulk_str] at hb ⊢); omega
  have hbk_5 : Bk.bulk (a61, a62, a63, a64, a65, a66, a67, a68) ≤ 1048576 := by (try simp only [bulk_pair, bulk_int, bulk_bool, bulk_str] at hb ⊢); omega
  have hbk_7 : Bk.bulk a8 ≤ 1048576 := by (try simp only [bulk_pair, bulk_int, bulk_bool, bulk_str] at hb ⊢); omega
  change Spec _ _ [Value.agg #[.int .i64 a1, .int .i64 a2, .int .i64 a3, .int .i64 a41, .int .i64 a42, .int .i64 a5, .int .i64 a61, .int .i64 a62, .int .i64 a63, .string a64, .string a65, .string a66, .int .i64 a67, a68.hdr, .int .i64 a7, a8.hdr, .int .i64 a9, .int .i64 a10, .bool a11]].toArray w [] _
  refine Spec.intro Tryz.func39 rfl Tryz.ntmps39 rfl ?_
  refine s2 ?_
  refine bx fun bk1 => ?_
  refine al fun bk2 => ?_
  refine s3 ?_
  refine al fun bk3 => ?_
  refine s4 ?_
  refine L_load rfl rfl (by first | exact RdC.blk mm) one3.h rfl ?_
  refine s6 ?_
  refine L_load rfl rfl (by first | exact RdC.blk mm) one3.h rfl ?_
  refine s6 ?_
  refine L_load rfl rfl (by first | exact RdC.blk mm) one3.h rfl ?_
  refine s6 ?_
  refine L_loadW rfl rfl (RdC.seg (by first | exact RdC.blk mm) 3 2 rfl) (by exact agg62.h) ?_
  refine L_callR rfl fn72.h rfl (by exact fun w hw => toId_spec w (a41, a42) (rd_carry (h1.2.2.2.1) hw) hbk_3) ?_
  rintro v M1 ⟨n4t, hv, hd3, rfl⟩
  obtain ⟨n41, n42⟩ := n4t
  subst hv
  simp only [List.cons_append, List.nil_append]
  refine s1 ?_
  refine L_storeA (fo := 3) rfl rfl pk (by exact agg71.h) (Nat.le_of_ble_eq_true rfl) (by first | (simp [Value.oneCell', TL.hdr]; done) | (simp [Value.oneCell', TL.hdr, Value.cells]; done) | exact fun v hv => GT.one _ v hv) (by simp only [cells_pair, cells_int, cells_bool, cells_str, cells_TL, List.take_zero, List.take_succ_cons, List.drop_zero, List.drop_succ_cons, List.set_cons_zero, List.set_cons_succ, List.length_cons, List.length_nil, List.cons_append, List.nil_append, List.append_nil, Nat.zero_add, Nat.reduceAdd]; rfl) ?_
  refine s4 ?_
  refine L_load rfl rfl (by first | exact RdC.blk mm) one3.h rfl ?_
  refine s6 ?_
  refine L_loadW rfl rfl (RdC.seg (by first | exact RdC.blk mm) 6 8 rfl) (by exact agg65.h) ?_
  refine L_callR rfl fn73.h rfl (by exact fun w hw => toCmd_spec w (a61, a62, a63, a64, a65, a66, a67, a68) (rd_carry (h1.2.2.2.2.2.1) hw) hbk_5) ?_
  rintro v M1 ⟨n6t, hv, hd5, rfl⟩
  obtain ⟨n61, n62, n63, n64, n65, n66, n67, n68⟩ := n6t
  subst hv
  simp only [List.cons_append, List.nil_append]
  refine s1 ?_
  refine L_storeA (fo := 6) rfl rfl pk (by exact agg72.h) (Nat.le_of_ble_eq_true rfl) (by first | (simp [Value.oneCell', TL.hdr]; done) | (simp [Value.oneCell', TL.hdr, Value.cells]; done) | exact fun v hv => GT.one _ v hv) (by simp only [cells_pair, cells_int, cells_bool, cells_str, cells_TL, List.take_zero, List.take_succ_cons, List.drop_zero, List.drop_succ_cons, List.set_cons_zero, List.set_cons_succ, List.length_cons, List.length_nil, List.cons_append, List.nil_append, List.append_nil, Nat.zero_add, Nat.reduceAdd]; rfl) ?_
  refine s4 ?_
  refine L_load rfl rfl (by first | exact RdC.blk mm) one3.h rfl ?_
  refine s6 ?_
  refine L_load rfl rfl (by first | exact RdC.blk mm) one66.h rfl ?_
  refine L_callR rfl fn74.h rfl (by exact fun w hw => toIdS_spec w _ (rd_carry (h1.2.2.2.2.2.2.2.1) hw) hbk_7) ?_
  rintro v M1 ⟨n8t, hv, hd7, rfl⟩
  subst hv
  simp only [List.cons_append, List.nil_append]
  refine s6 ?_
  refine L_load rfl rfl (by first | exact RdC.blk mm) one3.h rfl ?_
  refine s6 ?_
  refine L_load rfl rfl (by first | exact RdC.blk mm) one3.h rfl ?_
  refine s6 ?_
  refine L_load rfl rfl (by first | exact RdC.blk mm) one4.h rfl ?_
  refine s5 ?_
  refine L_loadW rfl rfl (by first | exact RdC.blk mm) (by exact agg74.h) ?_
  refine L_storeW rfl rfl pk (by exact agg74.h) (by rfl) (by first | (simp [Value.oneCell', TL.hdr]; done) | (simp [Value.oneCell', TL.hdr, Value.cells]; done) | exact fun v hv => GT.one _ v hv) ?_
  refine s1 ?_
  refine W_conv (M' := treeH (a10, a11) :: _) (fun w h => tree_snd (flat_int (h1.2.2.2.2.2.2.2.2.2.1)) (h.addFlat (flat_bool _))) ?_
  refine W_conv (M' := treeH (a9, a10, a11) :: _) (fun w h => tree_snd (flat_int (h1.2.2.2.2.2.2.2.2.1)) h) ?_
  refine W_conv (M' := treeH (n8t, a9, a10, a11) :: _) (fun w h => pairPick pk h) ?_
  refine W_conv (M' := treeH (a7, n8t, a9, a10, a11) :: _) (fun w h => tree_snd (flat_int (h1.2.2.2.2.2.2.1)) h) ?_
  refine W_conv (M' := treeH ((n61, n62, n63, n64, n65, n66, n67, n68), a7, n8t, a9, a10, a11) :: _) (fun w h => pairPick pk h) ?_
  refine W_conv (M' := treeH (a5, (n61, n62, n63, n64, n65, n66, n67, n68), a7, n8t, a9, a10, a11) :: _) (fun w h => tree_snd (flat_int (h1.2.2.2.2.1)) h) ?_
  refine W_conv (M' := treeH ((n41, n42), a5, (n61, n62, n63, n64, n65, n66, n67, n68), a7, n8t, a9, a10, a11) :: _) (fun w h => pairPick pk h) ?_
  refine W_conv (M' := treeH (a3, (n41, n42), a5, (n61, n62, n63, n64, n65, n66, n67, n68), a7, n8t, a9, a10, a11) :: _) (fun w h => tree_snd (flat_int (h1.2.2.1)) h) ?_
  refine W_conv (M' := treeH (a2, a3, (n41, n42), a5, (n61, n62, n63, n64, n65, n66, n67, n68), a7, n8t, a9, a10, a11) :: _) (fun w h => tree_snd (flat_int (h1.2.1)) h) ?_
  refine W_conv (M' := treeH (a1, a2, a3, (n41, n42), a5, (n61, n62, n63, n64, n65, n66, n67, n68), a7, n8t, a9, a10, a11) :: _) (fun w h => tree_snd (flat_int (h1.1)) h) ?_
  refine s1 ?_
  -- return 1 (R13)
  refine res1 rfl (ResOK.cell rfl mm (by exact agg74.h)) ⟨(a1, a2, a3, (n41, n42), a5, (n61, n62, n63, n64, n65, n66, n67, n68), a7, n8t, a9, a10, a11), rfl, by simp only [dat_pair, hd3, hd5, hd7], rfl⟩ ms
theorem eqEMsgS_spec (w : World) (t1 t2 : TL T_EMsg) (h1 : GT.rd w [] t1) (h2 : GT.rd w [] t2) : Spec Tryz.prog 25 [t1.hdr, t2.hdr].toArray w [] (IsV (.bool (eqB (GT.dat t1) (GT.dat t2)))) := by
  obtain ⟨a1, c1, e1, x1, y1⟩ := t1
  obtain ⟨a2, c2, e2, x2, y2⟩ := t2
  have hm1 : x1.length ≤ 9223372036854775807 := rd_len h1
  have hm2 : x2.length ≤ 9223372036854775807 := rd_len h2
  dsimp only [TL.hdr]
  refine Spec.intro Tryz.func25 rfl Tryz.ntmps25 rfl ?_
  refine s8 ?_
  refine L_lenS rfl rfl el29.h ?_
  refine s1 ?_
  refine L_lenS rfl rfl el29.h ?_
  refine s2 ?_
  refine kp [0, 1, 10] ?_
  refine W_cond rfl (fun hc1 => ?_) (fun hc1 => ?_)
  · refine s5 ?_
    -- return 1 (R2)
    refine res1 rfl (ResOK.tmp rfl) ⟨?_, rfl⟩ ms
    refine congrArg Value.bool (Eq.symm (eqB_false.2 fun e => ?_))
    simp at hc1
    exact hc1 (by have := congrArg List.length e; simp [dat_TL] at this; omega)
  · have hl : x1.length = x2.length := by simp at hc1; omega
    refine s7 ?_
    refine W_loopC (σ := Nat) 0 (fun (k : Nat) => [(5, .int .i64 (k : Int))]) (fun (k : Nat) => []) (fun (k : Nat) => k ≤ x1.length ∧ (x1.map GT.dat).take k = (x2.map GT.dat).take k) (fun (k : Nat) => x1.length - k) [(0, _), (1, _)] [] ?_ sb ms ?_
    · exact ⟨Nat.zero_le _, rfl⟩
    · rintro k ⟨hk, ht⟩
      refine kq [0, 1, 5] ?_
      refine s5 ?_
      refine L_lenS rfl rfl el29.h ?_
      refine s2 ?_
      refine kp [0, 1, 5, 14] ?_
      refine W_cond rfl (fun hc4 => ?_) (fun hc4 => ?_)
      · have hk1 : k < x1.length := by simpa using hc4
        obtain ⟨g1, o1, rfl⟩ := rd_addr h1 hk1
        obtain ⟨g2, o2, rfl⟩ := rd_addr (k := k) h2 (show k < x2.length by omega)
        obtain ⟨u1, hu1⟩ := getEl hk1
        obtain ⟨u2, hu2⟩ := getEl (show k < x2.length by omega)
        refine s4 ?_
        refine W_D0 [26] mix (by kernel_rfl) rfl ?_
        refine s2 ?_
        refine D_indexAddr _ GC.none (OpV.t rfl) (OpV.t rfl) el29.h (fun hg => ⟨rfl, by (try dsimp only); omega⟩) ?_
        refine D_loadW GC.none (OpV.t rfl) (fun hg => (by first | exact RdC.blk mm | exact RdC.old (Cells.el h1 rfl hu1) | exact RdC.old (Cells.el h2 rfl hu2))) (by exact agg74.h) ?_
        refine s2 ?_
        refine D_indexAddr _ GC.none (OpV.t rfl) (OpV.t rfl) el29.h (fun hg => ⟨rfl, by (try dsimp only); omega⟩) ?_
        refine D_loadW GC.none (OpV.t rfl) (fun hg => (by first | exact RdC.blk mm | exact RdC.old (Cells.el h1 rfl hu1) | exact RdC.old (Cells.el h2 rfl hu2))) (by exact agg74.h) ?_
        refine D_callX GC.none fn47.h (OpVs.cons (OpV.t rfl) (OpVs.cons (OpV.t rfl) (OpVs.nil))) (by exact fun hg w F hF hM => (fun w hw => eqEMsg_spec w _ _ (rd_carry (h1.2.2.1 _ (List.mem_of_getElem? hu1)) hw) (rd_carry (h2.2.2.1 _ (List.mem_of_getElem? hu2)) hw)) w hF) ?_
        refine s13 ?_
        refine kp [0, 1, 5, 26] ?_
        refine W_cond rfl (fun hc6 => ?_) (fun hc6 => ?_)
        · refine s5 ?_
          -- return 2 (R7)
          refine res1 rfl (ResOK.tmp rfl) ⟨?_, rfl⟩ ms
          refine congrArg Value.bool (Eq.symm (eqB_false.2 fun e => ?_))
          simp at hc6
          replace e : x1.map GT.dat = x2.map GT.dat := e
          have e2 := congrArg (fun l => l[k]?) e
          simp only [List.getElem?_map, hu1, hu2, Option.map_some, Option.some.injEq] at e2
          exact hc6 (by simpa [dat_int, dat_str, dat_bool] using e2)
        · refine s3 ?_
          refine L_binV rfl rfl rfl (bv_addR (by unfold inR; omega)) ?_
          refine s2 ?_
          refine ⟨k + 1, sb, ms, ?_, ?_⟩
          · exact ⟨by omega, take_succ_eq ht (by rw [List.getElem?_map, hu1]; rfl) (by rw [List.getElem?_map, hu2]; rfl) (by simpa [dat_int, dat_str, dat_bool] using hc6)⟩
          · (try dsimp only); omega
      · refine W_exit ?_
        refine s5 ?_
        -- return 3 (R8)
        refine res1 rfl (ResOK.tmp rfl) ⟨?_, rfl⟩ ms
        refine congrArg Value.bool (Eq.symm (eqB_true.2 ?_))
        have hk2 : x1.length ≤ k := by simpa using hc4
        have h3 := ht
        rw [List.take_of_length_le (by simp; omega), List.take_of_length_le (by simp; omega)] at h3
        exact h3
theorem szEMsgS_spec (w : World) (t1 : TL T_EMsg) (left : Int) (hl : 0 ≤ left) (hm : left ≤ 1048576) (h1 : GT.rd w [] t1) (ho : Ok.ok (GT.dat t1)) : Spec Tryz.prog 17 [t1.hdr, .int .i64 left].toArray w [] (IsV (.int .i64 (if (Bk.bulk t1 : Int) ≤ left then left - (Bk.bulk t1 : Int) else -1))) := by
  obtain ⟨a1, c1, e1, x1, y1⟩ := t1
  have hm1 : x1.length ≤ 9223372036854775807 := rd_len h1
  rw [bulk_TL]
  dsimp only [TL.hdr]
  refine Spec.intro Tryz.func17 rfl Tryz.ntmps17 rfl ?_
  refine s8 ?_
  refine L_lenS rfl rfl el23.h ?_
  refine L_binV rfl rfl rfl (bv_subR (by unfold inR; omega)) ?_
  refine s8 ?_
  refine kp [0, 1, 11] ?_
  refine W_cond rfl (fun hc2 => ?_) (fun hc2 => ?_)
  · have hb0 : left - (x1.length : Int) < 0 := by simpa using hc2
    refine s5 ?_
    -- return 1 (R3)
    refine res1 rfl (ResOK.tmp rfl) ⟨?_, rfl⟩ ms
    first
      | (rw [if_neg (by simp only [Int.natCast_add]; omega)]; done)
      | (rw [if_neg (by have := bulks_take_le x1 (k + 1); simp only [Int.natCast_add]; omega)]; done)
      | (have hk2 : x1.length ≤ k := by simpa using hc5
         rw [List.take_of_length_le hk2] at ht ⊢
         rw [if_pos (by simp only [Int.natCast_add]; omega)]; congr 1; simp only [Int.natCast_add]; omega)
  · have hb0 : ¬ (left - (x1.length : Int) < 0) := by simpa using hc2
    refine s7 ?_
    have h0 : left - (x1.length : Int) = left - (x1.length : Int) - (bulks (x1.take 0) : Int) := by simp [bulks]
    rw [h0]
    refine W_loopC (σ := Nat) 0 (fun (k : Nat) => [(1, .int .i64 (left - (x1.length : Int) - (bulks (x1.take k) : Int))), (5, .int .i64 (k : Int))]) (fun (k : Nat) => []) (fun (k : Nat) => k ≤ x1.length ∧ 0 ≤ (left - (x1.length : Int) - (bulks (x1.take k) : Int))) (fun (k : Nat) => x1.length - k) [(0, _)] [] ?_ sb ms ?_
    · exact ⟨Nat.zero_le _, by simp [bulks]; omega⟩
    · rintro k ⟨hk, ht⟩
      refine kq [0, 1, 5] ?_
      refine s5 ?_
      refine L_lenS rfl rfl el23.h ?_
      refine s2 ?_
      refine kp [0, 1, 5, 15] ?_
      refine W_cond rfl (fun hc5 => ?_) (fun hc5 => ?_)
      · have hk1 : k < x1.length := by simpa using hc5
        obtain ⟨g1, o1, rfl⟩ := rd_addr h1 hk1
        obtain ⟨u1, hu1⟩ := getEl hk1
        have hbs := bulks_take_succ hu1
        have hble := bulks_take_le x1 (k + 1)
        refine s7 ?_
        refine L_indexAddr rfl rfl rfl el23.h rfl (by omega) ?_
        refine L_loadW rfl rfl (by first | exact RdC.blk mm | exact RdC.old (Cells.el h1 rfl hu1)) (by exact agg68.h) ?_
        refine s1 ?_
        refine L_callX rfl fn31.h rfl (by exact fun w hw => szEMsg_spec w _ _ (by omega) (by omega) (rd_carry (h1.2.2.1 _ (List.mem_of_getElem? hu1)) hw) (ho.2 _ (List.mem_map.2 ⟨u1, List.mem_of_getElem? hu1, rfl⟩))) ?_
        refine s7 ?_
        refine kp [0, 1, 5, 25] ?_
        refine W_cond rfl (fun hc8 => ?_) (fun hc8 => ?_)
        · have hb1 : ¬ ((Bk.bulk u1 : Int) ≤ (left - (x1.length : Int) - (bulks (x1.take k) : Int))) := by
            intro hn
            rw [if_pos hn] at hc8; simp at hc8; omega
          refine s5 ?_
          -- return 2 (R9)
          refine res1 rfl (ResOK.tmp rfl) ⟨?_, rfl⟩ ms
          first
            | (rw [if_neg (by simp only [Int.natCast_add]; omega)]; done)
            | (rw [if_neg (by have := bulks_take_le x1 (k + 1); simp only [Int.natCast_add]; omega)]; done)
            | (have hk2 : x1.length ≤ k := by simpa using hc5
               rw [List.take_of_length_le hk2] at ht ⊢
               rw [if_pos (by simp only [Int.natCast_add]; omega)]; congr 1; simp only [Int.natCast_add]; omega)
        · have hb1 : (Bk.bulk u1 : Int) ≤ (left - (x1.length : Int) - (bulks (x1.take k) : Int)) := by
            rcases Int.decLt (left - (x1.length : Int) - (bulks (x1.take k) : Int)) (Bk.bulk u1 : Int) with hn | hn
            · omega
            · rw [if_neg (by omega)] at hc8; simp at hc8
          rw [if_pos hb1]
          have hnx : (left - (x1.length : Int) - (bulks (x1.take k) : Int)) - (Bk.bulk u1 : Int) = left - (x1.length : Int) - (bulks (x1.take (k + 1)) : Int) := by rw [hbs]; omega
          rw [hnx]
          refine s3 ?_
          refine L_binV rfl rfl rfl (bv_addR (by unfold inR; omega)) ?_
          refine s2 ?_
          refine ⟨k + 1, sb, ms, ?_, ?_⟩
          · exact ⟨by omega, by omega⟩
          · (try dsimp only); omega
      · refine W_exit ?_
        refine s6 ?_
        -- return 3 (R10)
        refine res1 rfl (ResOK.tmp rfl) ⟨?_, rfl⟩ ms
        first
          | (rw [if_neg (by simp only [Int.natCast_add]; omega)]; done)
          | (rw [if_neg (by have := bulks_take_le x1 (k + 1); simp only [Int.natCast_add]; omega)]; done)
          | (have hk2 : x1.length ≤ k := by simpa using hc5
             rw [List.take_of_length_le hk2] at ht ⊢
             rw [if_pos (by simp only [Int.natCast_add]; omega)]; congr 1; simp only [Int.natCast_add]; omega)
theorem toEMsgS_spec (w : World) (t1 : TL T_EMsg) (h1 : GT.rd w [] t1) (hb : Bk.bulk t1 ≤ 1048576) : Spec Tryz.prog 21 [t1.hdr].toArray w [] (fun v M => ∃ t2 : TL T_EMsg, v = t2.hdr ∧ GT.dat t2 = GT.dat t1 ∧ M = [treeH t2]) := by
  obtain ⟨a1, c1, e1, x1, y1⟩ := t1
  rw [bulk_TL] at hb
  dsimp only [TL.hdr]
  refine Spec.intro Tryz.func21 rfl Tryz.ntmps21 rfl ?_
  refine s7 ?_
  refine L_lenS rfl rfl el23.h ?_
  refine L_make (τ := T_EMsg) ((0 : Int), (0 : Int), (0 : Int), ((0 : Int), (0 : Int)), (0 : Int), ((0 : Int), (0 : Int), (0 : Int), ByteArray.empty, ByteArray.empty, ByteArray.empty, (0 : Int), (TL.nil ByteArray 0)), (0 : Int), (TL.nil T_Id 0), (0 : Int), (0 : Int), false) rfl rfl rfl el29.h rfl rfl (flat_pair (flat_int trivial) (flat_pair (flat_int trivial) (flat_pair (flat_int trivial) (flat_pair (flat_pair (flat_int trivial) (flat_int trivial)) (flat_pair (flat_int trivial) (flat_pair (flat_pair (flat_int trivial) (flat_pair (flat_int trivial) (flat_pair (flat_int trivial) (flat_pair (flat_str trivial) (flat_pair (flat_str trivial) (flat_pair (flat_str trivial) (flat_pair (flat_int trivial) (flat_nil 0)))))))) (flat_pair (flat_int trivial) (flat_pair (flat_nil 0) (flat_pair (flat_int trivial) (flat_pair (flat_int trivial) (flat_bool _))))))))))) (by omega) (by unfold maxLen; omega) (fun g => ?_)
  refine s8 ?_
  refine W_loopC (σ := Nat × List T_EMsg) (0, List.replicate x1.length ((0 : Int), (0 : Int), (0 : Int), ((0 : Int), (0 : Int)), (0 : Int), ((0 : Int), (0 : Int), (0 : Int), ByteArray.empty, ByteArray.empty, ByteArray.empty, (0 : Int), (TL.nil ByteArray 0)), (0 : Int), (TL.nil T_Id 0), (0 : Int), (0 : Int), false)) (fun (p : Nat × List T_EMsg) => [(4, .int .i64 (p.1 : Int))]) (fun (p : Nat × List T_EMsg) => [treeH (⟨some ⟨g, 0, none⟩, x1.length, 74, p.2, []⟩ : TL T_EMsg)]) (fun (p : Nat × List T_EMsg) => p.1 ≤ x1.length ∧ p.2.length = x1.length ∧ (p.2.take p.1).map GT.dat = (x1.take p.1).map GT.dat) (fun (p : Nat × List T_EMsg) => x1.length - p.1) [(0, _), (3, _)] [] ?_ sb ms ?_
  · exact ⟨Nat.zero_le _, by simp, by simp⟩
  · rintro ⟨k, cur⟩ ⟨hk, hlen, hdat⟩
    dsimp only at hk hlen hdat
    refine kq [0, 3, 4] ?_
    refine s5 ?_
    refine L_lenS rfl rfl el23.h ?_
    refine s2 ?_
    refine kp [0, 3, 4, 11] ?_
    refine W_cond rfl (fun hc3 => ?_) (fun hc3 => ?_)
    · have hk1 : k < x1.length := by simpa using hc3
      obtain ⟨g1, o1, rfl⟩ := rd_addr h1 hk1
      obtain ⟨u1, hu1⟩ := getEl hk1
      have hub : Bk.bulk u1 ≤ 1048576 := by have := bulk_mem (List.mem_of_getElem? hu1); omega
      refine s8 ?_
      refine L_indexAddr rfl rfl rfl el23.h rfl (by omega) ?_
      refine L_loadW rfl rfl (by first | exact RdC.blk mm | exact RdC.old (Cells.el h1 rfl hu1)) (by exact agg68.h) ?_
      refine L_callR rfl fn39.h rfl (by exact fun w hw => toEMsg_spec w _ (rd_carry (h1.2.2.1 _ (List.mem_of_getElem? hu1)) hw) hub) ?_
      rintro v M1 ⟨u2, hv, hd, rfl⟩
      subst hv
      simp only [List.cons_append, List.nil_append]
      refine L_indexAddr rfl rfl rfl el29.h rfl (by omega) ?_
      obtain ⟨u0, hu0⟩ := getEl (show k < cur.length by omega)
      refine L_storeEl u2 rfl rfl pk rfl hu0 rfl pk (.inl agg74.h) ?_
      refine s3 ?_
      refine L_binV rfl rfl rfl (bv_addR (by unfold inR; omega)) ?_
      refine s2 ?_
      refine ⟨(k + 1, cur.set k u2), sb, ms, ?_, ?_⟩
      · exact ⟨by dsimp only; omega, by simpa using hlen, map_take_set GT.dat GT.dat hdat (by omega) hu1 hd⟩
      · dsimp only; omega
    · refine W_exit ?_
      refine s6 ?_
      -- return 1 (R6)
      refine res1 rfl (ResOK.tmp rfl) ⟨⟨some ⟨g, 0, none⟩, x1.length, 74, cur, []⟩, ?_, ?_, rfl⟩ ms
      · show _ = Value.slice _ cur.length _
        rw [hlen]
      · have hk2 : x1.length ≤ k := by simpa using hc3
        rw [List.take_of_length_le (by omega), List.take_of_length_le (by omega)] at hdat
        exact hdat
set_option maxHeartbeats 4000000 in
theorem markEMsgS_spec (w : World) (t1 : TL T_EMsg) (k0 : Nat) (hk0 : 0 < k0) (hb : k0 + Mk.cnt t1 < 9223372036854775807) : Spec Tryz.prog 29 [t1.hdr, .int .i64 (k0 : Int)].toArray w [treeH t1] (fun v M => v = .int .i64 ((k0 + Mk.cnt t1 : Nat) : Int) ∧ M = [treeH (Mk.mkd k0 t1)]) := by
  obtain ⟨a1, c1, e1, x1, y1⟩ := t1
  replace hb : k0 + cnts x1 < 9223372036854775807 := hb
  dsimp only [TL.hdr]
  refine Spec.intro Tryz.func29 rfl Tryz.ntmps29 rfl ?_
  refine W_fact (fun w h => ow_facts (h.prs _ (List.mem_cons_self ..))) fun hF => ?_
  replace hF : x1.length ≤ 9223372036854775807 ∧ (0 < x1.length → ∃ g, a1 = some ⟨g, 0, none⟩) := hF
  refine s10 ?_
  refine W_conv (M' := [treeH (⟨a1, c1, e1, half k0 0 x1, y1⟩ : TL T_EMsg)]) (fun w h => by rw [half_zero]; exact h) ?_
  refine W_loopC (σ := Nat) 0 (fun (i : Nat) => [(1, .int .i64 ((k0 + cnts (x1.take i) : Nat) : Int)), (5, .int .i64 (i : Int))]) (fun (i : Nat) => [treeH (⟨a1, c1, e1, half k0 i x1, y1⟩ : TL T_EMsg)]) (fun (i : Nat) => i ≤ x1.length) (fun (i : Nat) => x1.length - i) [(0, _)] [] ?_ sb ms ?_
  · exact Nat.zero_le _
  · rintro i hi
    refine kq [0, 1, 5] ?_
    refine s5 ?_
    refine L_lenS rfl rfl el29.h ?_
    refine s2 ?_
    refine kp [0, 1, 5, 9] ?_
    refine W_cond rfl (fun hc2 => ?_) (fun hc2 => ?_)
    · have hk1 : i < x1.length := by simpa using hc2
      obtain ⟨g, rfl⟩ := hF.2 (by omega)
      obtain ⟨u, hu⟩ := getEl hk1
      have hs := cnts_take_succ hu
      have hle := cnts_take_le x1 (i + 1)
      have hlh := half_length k0 i x1
      obtain ⟨b1, b2, b3, ⟨b41, b42⟩, b5, ⟨b61, b62, b63, b64, b65, b66, b67, b68⟩, b7, b8, b9, b10, b11⟩ := u
      simp only [cnt_pair, cnt_int, cnt_str, cnt_bool] at hs
      refine s8 ?_
      refine L_indexAddr rfl rfl rfl el29.h rfl (by omega) ?_
      refine s1 ?_
      refine L_storeElF (fo := 0) (x' := (((((k0 + cnts (x1.take i)) : Nat) : Int), b2, b3, (b41, b42), b5, (b61, b62, b63, b64, b65, b66, b67, b68), b7, b8, b9, b10, b11) : T_EMsg)) rfl rfl pk rfl (show ((half k0 i x1) : List T_EMsg)[i]? = some ((b1, b2, b3, (b41, b42), b5, (b61, b62, b63, b64, b65, b66, b67, b68), b7, b8, b9, b10, b11) : T_EMsg) from half_get (k := k0) hu) rfl rfl (by decide) rfl (fun w h => by exact ⟨(by exact trivial), h.2.1, h.2.2.1, ⟨h.2.2.2.1.1, h.2.2.2.1.2⟩, h.2.2.2.2.1, ⟨h.2.2.2.2.2.1.1, h.2.2.2.2.2.1.2.1, h.2.2.2.2.2.1.2.2.1, h.2.2.2.2.2.1.2.2.2.1, h.2.2.2.2.2.1.2.2.2.2.1, h.2.2.2.2.2.1.2.2.2.2.2.1, h.2.2.2.2.2.1.2.2.2.2.2.2.1, h.2.2.2.2.2.1.2.2.2.2.2.2.2⟩, h.2.2.2.2.2.2.1, h.2.2.2.2.2.2.2.1, h.2.2.2.2.2.2.2.2.1, h.2.2.2.2.2.2.2.2.2.1, h.2.2.2.2.2.2.2.2.2.2⟩) one3.h ?_
      refine s4 ?_
      refine L_binV rfl rfl rfl (bv_addR (by unfold inR; omega)) ?_
      refine s2 ?_
      rw [show (((k0 + cnts (x1.take i)) : Nat) : Int) + 1 = ((((k0 + cnts (x1.take i)) + 1) : Nat) : Int) from rfl]
      refine s5 ?_
      refine L_indexAddr rfl rfl rfl el29.h rfl (by omega) ?_
      refine s1 ?_
      refine L_storeElF (fo := 1) (x' := (((((k0 + cnts (x1.take i)) : Nat) : Int), ((((k0 + cnts (x1.take i)) + 1) : Nat) : Int), b3, (b41, b42), b5, (b61, b62, b63, b64, b65, b66, b67, b68), b7, b8, b9, b10, b11) : T_EMsg)) rfl rfl pk rfl (show (((half k0 i x1).set i (((((k0 + cnts (x1.take i)) : Nat) : Int), b2, b3, (b41, b42), b5, (b61, b62, b63, b64, b65, b66, b67, b68), b7, b8, b9, b10, b11) : T_EMsg)) : List T_EMsg)[i]? = some (((((k0 + cnts (x1.take i)) : Nat) : Int), b2, b3, (b41, b42), b5, (b61, b62, b63, b64, b65, b66, b67, b68), b7, b8, b9, b10, b11) : T_EMsg) from set_get (half_get (k := k0) hu)) rfl rfl (by decide) rfl (fun w h => by exact ⟨h.1, (by exact trivial), h.2.2.1, ⟨h.2.2.2.1.1, h.2.2.2.1.2⟩, h.2.2.2.2.1, ⟨h.2.2.2.2.2.1.1, h.2.2.2.2.2.1.2.1, h.2.2.2.2.2.1.2.2.1, h.2.2.2.2.2.1.2.2.2.1, h.2.2.2.2.2.1.2.2.2.2.1, h.2.2.2.2.2.1.2.2.2.2.2.1, h.2.2.2.2.2.1.2.2.2.2.2.2.1, h.2.2.2.2.2.1.2.2.2.2.2.2.2⟩, h.2.2.2.2.2.2.1, h.2.2.2.2.2.2.2.1, h.2.2.2.2.2.2.2.2.1, h.2.2.2.2.2.2.2.2.2.1, h.2.2.2.2.2.2.2.2.2.2⟩) one3.h ?_
      rw [List.set_set]
      refine s4 ?_
      refine L_binV rfl rfl rfl (bv_addR (by unfold inR; omega)) ?_
      refine s2 ?_
      rw [show ((((k0 + cnts (x1.take i)) + 1) : Nat) : Int) + 1 = ((((k0 + cnts (x1.take i)) + 2) : Nat) : Int) from rfl]
      refine s5 ?_
      refine L_indexAddr rfl rfl rfl el29.h rfl (by omega) ?_
      refine s1 ?_
      refine L_storeElF (fo := 2) (x' := (((((k0 + cnts (x1.take i)) : Nat) : Int), ((((k0 + cnts (x1.take i)) + 1) : Nat) : Int), ((((k0 + cnts (x1.take i)) + 2) : Nat) : Int), (b41, b42), b5, (b61, b62, b63, b64, b65, b66, b67, b68), b7, b8, b9, b10, b11) : T_EMsg)) rfl rfl pk rfl (show (((half k0 i x1).set i (((((k0 + cnts (x1.take i)) : Nat) : Int), ((((k0 + cnts (x1.take i)) + 1) : Nat) : Int), b3, (b41, b42), b5, (b61, b62, b63, b64, b65, b66, b67, b68), b7, b8, b9, b10, b11) : T_EMsg)) : List T_EMsg)[i]? = some (((((k0 + cnts (x1.take i)) : Nat) : Int), ((((k0 + cnts (x1.take i)) + 1) : Nat) : Int), b3, (b41, b42), b5, (b61, b62, b63, b64, b65, b66, b67, b68), b7, b8, b9, b10, b11) : T_EMsg) from set_get (half_get (k := k0) hu)) rfl rfl (by decide) rfl (fun w h => by exact ⟨h.1, h.2.1, (by exact trivial), ⟨h.2.2.2.1.1, h.2.2.2.1.2⟩, h.2.2.2.2.1, ⟨h.2.2.2.2.2.1.1, h.2.2.2.2.2.1.2.1, h.2.2.2.2.2.1.2.2.1, h.2.2.2.2.2.1.2.2.2.1, h.2.2.2.2.2.1.2.2.2.2.1, h.2.2.2.2.2.1.2.2.2.2.2.1, h.2.2.2.2.2.1.2.2.2.2.2.2.1, h.2.2.2.2.2.1.2.2.2.2.2.2.2⟩, h.2.2.2.2.2.2.1, h.2.2.2.2.2.2.2.1, h.2.2.2.2.2.2.2.2.1, h.2.2.2.2.2.2.2.2.2.1, h.2.2.2.2.2.2.2.2.2.2⟩) one3.h ?_
      rw [List.set_set]
      refine s4 ?_
      refine L_binV rfl rfl rfl (bv_addR (by unfold inR; omega)) ?_
      refine s2 ?_
      rw [show ((((k0 + cnts (x1.take i)) + 2) : Nat) : Int) + 1 = ((((k0 + cnts (x1.take i)) + 3) : Nat) : Int) from rfl]
      refine s5 ?_
      refine L_indexAddr rfl rfl rfl el29.h rfl (by omega) ?_
      refine s2 ?_
      refine L_storeElF (fo := 3) (x' := (((((k0 + cnts (x1.take i)) : Nat) : Int), ((((k0 + cnts (x1.take i)) + 1) : Nat) : Int), ((((k0 + cnts (x1.take i)) + 2) : Nat) : Int), (((((k0 + cnts (x1.take i)) + 3) : Nat) : Int), b42), b5, (b61, b62, b63, b64, b65, b66, b67, b68), b7, b8, b9, b10, b11) : T_EMsg)) rfl rfl pk rfl (show (((half k0 i x1).set i (((((k0 + cnts (x1.take i)) : Nat) : Int), ((((k0 + cnts (x1.take i)) + 1) : Nat) : Int), ((((k0 + cnts (x1.take i)) + 2) : Nat) : Int), (b41, b42), b5, (b61, b62, b63, b64, b65, b66, b67, b68), b7, b8, b9, b10, b11) : T_EMsg)) : List T_EMsg)[i]? = some (((((k0 + cnts (x1.take i)) : Nat) : Int), ((((k0 + cnts (x1.take i)) + 1) : Nat) : Int), ((((k0 + cnts (x1.take i)) + 2) : Nat) : Int), (b41, b42), b5, (b61, b62, b63, b64, b65, b66, b67, b68), b7, b8, b9, b10, b11) : T_EMsg) from set_get (half_get (k := k0) hu)) rfl rfl (by decide) rfl (fun w h => by exact ⟨h.1, h.2.1, h.2.2.1, ⟨(by exact trivial), h.2.2.2.1.2⟩, h.2.2.2.2.1, ⟨h.2.2.2.2.2.1.1, h.2.2.2.2.2.1.2.1, h.2.2.2.2.2.1.2.2.1, h.2.2.2.2.2.1.2.2.2.1, h.2.2.2.2.2.1.2.2.2.2.1, h.2.2.2.2.2.1.2.2.2.2.2.1, h.2.2.2.2.2.1.2.2.2.2.2.2.1, h.2.2.2.2.2.1.2.2.2.2.2.2.2⟩, h.2.2.2.2.2.2.1, h.2.2.2.2.2.2.2.1, h.2.2.2.2.2.2.2.2.1, h.2.2.2.2.2.2.2.2.2.1, h.2.2.2.2.2.2.2.2.2.2⟩) one3.h ?_
      rw [List.set_set]
      refine s4 ?_
      refine L_binV rfl rfl rfl (bv_addR (by unfold inR; omega)) ?_
      refine s2 ?_
      rw [show ((((k0 + cnts (x1.take i)) + 3) : Nat) : Int) + 1 = ((((k0 + cnts (x1.take i)) + 4) : Nat) : Int) from rfl]
      refine s5 ?_
      refine L_indexAddr rfl rfl rfl el29.h rfl (by omega) ?_
      refine s2 ?_
      refine L_storeElF (fo := 4) (x' := (((((k0 + cnts (x1.take i)) : Nat) : Int), ((((k0 + cnts (x1.take i)) + 1) : Nat) : Int), ((((k0 + cnts (x1.take i)) + 2) : Nat) : Int), (((((k0 + cnts (x1.take i)) + 3) : Nat) : Int), ((((k0 + cnts (x1.take i)) + 4) : Nat) : Int)), b5, (b61, b62, b63, b64, b65, b66, b67, b68), b7, b8, b9, b10, b11) : T_EMsg)) rfl rfl pk rfl (show (((half k0 i x1).set i (((((k0 + cnts (x1.take i)) : Nat) : Int), ((((k0 + cnts (x1.take i)) + 1) : Nat) : Int), ((((k0 + cnts (x1.take i)) + 2) : Nat) : Int), (((((k0 + cnts (x1.take i)) + 3) : Nat) : Int), b42), b5, (b61, b62, b63, b64, b65, b66, b67, b68), b7, b8, b9, b10, b11) : T_EMsg)) : List T_EMsg)[i]? = some (((((k0 + cnts (x1.take i)) : Nat) : Int), ((((k0 + cnts (x1.take i)) + 1) : Nat) : Int), ((((k0 + cnts (x1.take i)) + 2) : Nat) : Int), (((((k0 + cnts (x1.take i)) + 3) : Nat) : Int), b42), b5, (b61, b62, b63, b64, b65, b66, b67, b68), b7, b8, b9, b10, b11) : T_EMsg) from set_get (half_get (k := k0) hu)) rfl rfl (by decide) rfl (fun w h => by exact ⟨h.1, h.2.1, h.2.2.1, ⟨h.2.2.2.1.1, (by exact trivial)⟩, h.2.2.2.2.1, ⟨h.2.2.2.2.2.1.1, h.2.2.2.2.2.1.2.1, h.2.2.2.2.2.1.2.2.1, h.2.2.2.2.2.1.2.2.2.1, h.2.2.2.2.2.1.2.2.2.2.1, h.2.2.2.2.2.1.2.2.2.2.2.1, h.2.2.2.2.2.1.2.2.2.2.2.2.1, h.2.2.2.2.2.1.2.2.2.2.2.2.2⟩, h.2.2.2.2.2.2.1, h.2.2.2.2.2.2.2.1, h.2.2.2.2.2.2.2.2.1, h.2.2.2.2.2.2.2.2.2.1, h.2.2.2.2.2.2.2.2.2.2⟩) one3.h ?_
      rw [List.set_set]
      refine s4 ?_
      refine L_binV rfl rfl rfl (bv_addR (by unfold inR; omega)) ?_
      refine s2 ?_
      rw [show ((((k0 + cnts (x1.take i)) + 4) : Nat) : Int) + 1 = ((((k0 + cnts (x1.take i)) + 5) : Nat) : Int) from rfl]
      refine s5 ?_
      refine L_indexAddr rfl rfl rfl el29.h rfl (by omega) ?_
      refine s1 ?_
      refine L_storeElF (fo := 5) (x' := (((((k0 + cnts (x1.take i)) : Nat) : Int), ((((k0 + cnts (x1.take i)) + 1) : Nat) : Int), ((((k0 + cnts (x1.take i)) + 2) : Nat) : Int), (((((k0 + cnts (x1.take i)) + 3) : Nat) : Int), ((((k0 + cnts (x1.take i)) + 4) : Nat) : Int)), ((((k0 + cnts (x1.take i)) + 5) : Nat) : Int), (b61, b62, b63, b64, b65, b66, b67, b68), b7, b8, b9, b10, b11) : T_EMsg)) rfl rfl pk rfl (show (((half k0 i x1).set i (((((k0 + cnts (x1.take i)) : Nat) : Int), ((((k0 + cnts (x1.take i)) + 1) : Nat) : Int), ((((k0 + cnts (x1.take i)) + 2) : Nat) : Int), (((((k0 + cnts (x1.take i)) + 3) : Nat) : Int), ((((k0 + cnts (x1.take i)) + 4) : Nat) : Int)), b5, (b61, b62, b63, b64, b65, b66, b67, b68), b7, b8, b9, b10, b11) : T_EMsg)) : List T_EMsg)[i]? = some (((((k0 + cnts (x1.take i)) : Nat) : Int), ((((k0 + cnts (x1.take i)) + 1) : Nat) : Int), ((((k0 + cnts (x1.take i)) + 2) : Nat) : Int), (((((k0 + cnts (x1.take i)) + 3) : Nat) : Int), ((((k0 + cnts (x1.take i)) + 4) : Nat) : Int)), b5, (b61, b62, b63, b64, b65, b66, b67, b68), b7, b8, b9, b10, b11) : T_EMsg) from set_get (half_get (k := k0) hu)) rfl rfl (by decide) rfl (fun w h => by exact ⟨h.1, h.2.1, h.2.2.1, ⟨h.2.2.2.1.1, h.2.2.2.1.2⟩, (by exact trivial), ⟨h.2.2.2.2.2.1.1, h.2.2.2.2.2.1.2.1, h.2.2.2.2.2.1.2.2.1, h.2.2.2.2.2.1.2.2.2.1, h.2.2.2.2.2.1.2.2.2.2.1, h.2.2.2.2.2.1.2.2.2.2.2.1, h.2.2.2.2.2.1.2.2.2.2.2.2.1, h.2.2.2.2.2.1.2.2.2.2.2.2.2⟩, h.2.2.2.2.2.2.1, h.2.2.2.2.2.2.2.1, h.2.2.2.2.2.2.2.2.1, h.2.2.2.2.2.2.2.2.2.1, h.2.2.2.2.2.2.2.2.2.2⟩) one3.h ?_
      rw [List.set_set]
      refine s4 ?_
      refine L_binV rfl rfl rfl (bv_addR (by unfold inR; omega)) ?_
      refine s2 ?_
      rw [show ((((k0 + cnts (x1.take i)) + 5) : Nat) : Int) + 1 = ((((k0 + cnts (x1.take i)) + 6) : Nat) : Int) from rfl]
      refine s5 ?_
      refine L_indexAddr rfl rfl rfl el29.h rfl (by omega) ?_
      refine s2 ?_
      refine L_storeElF (fo := 6) (x' := (((((k0 + cnts (x1.take i)) : Nat) : Int), ((((k0 + cnts (x1.take i)) + 1) : Nat) : Int), ((((k0 + cnts (x1.take i)) + 2) : Nat) : Int), (((((k0 + cnts (x1.take i)) + 3) : Nat) : Int), ((((k0 + cnts (x1.take i)) + 4) : Nat) : Int)), ((((k0 + cnts (x1.take i)) + 5) : Nat) : Int), (((((k0 + cnts (x1.take i)) + 6) : Nat) : Int), b62, b63, b64, b65, b66, b67, b68), b7, b8, b9, b10, b11) : T_EMsg)) rfl rfl pk rfl (show (((half k0 i x1).set i (((((k0 + cnts (x1.take i)) : Nat) : Int), ((((k0 + cnts (x1.take i)) + 1) : Nat) : Int), ((((k0 + cnts (x1.take i)) + 2) : Nat) : Int), (((((k0 + cnts (x1.take i)) + 3) : Nat) : Int), ((((k0 + cnts (x1.take i)) + 4) : Nat) : Int)), ((((k0 + cnts (x1.take i)) + 5) : Nat) : Int), (b61, b62, b63, b64, b65, b66, b67, b68), b7, b8, b9, b10, b11) : T_EMsg)) : List T_EMsg)[i]? = some (((((k0 + cnts (x1.take i)) : Nat) : Int), ((((k0 + cnts (x1.take i)) + 1) : Nat) : Int), ((((k0 + cnts (x1.take i)) + 2) : Nat) : Int), (((((k0 + cnts (x1.take i)) + 3) : Nat) : Int), ((((k0 + cnts (x1.take i)) + 4) : Nat) : Int)), ((((k0 + cnts (x1.take i)) + 5) : Nat) : Int), (b61, b62, b63, b64, b65, b66, b67, b68), b7, b8, b9, b10, b11) : T_EMsg) from set_get (half_get (k := k0) hu)) rfl rfl (by decide) rfl (fun w h => by exact ⟨h.1, h.2.1, h.2.2.1, ⟨h.2.2.2.1.1, h.2.2.2.1.2⟩, h.2.2.2.2.1, ⟨(by exact trivial), h.2.2.2.2.2.1.2.1, h.2.2.2.2.2.1.2.2.1, h.2.2.2.2.2.1.2.2.2.1, h.2.2.2.2.2.1.2.2.2.2.1, h.2.2.2.2.2.1.2.2.2.2.2.1, h.2.2.2.2.2.1.2.2.2.2.2.2.1, h.2.2.2.2.2.1.2.2.2.2.2.2.2⟩, h.2.2.2.2.2.2.1, h.2.2.2.2.2.2.2.1, h.2.2.2.2.2.2.2.2.1, h.2.2.2.2.2.2.2.2.2.1, h.2.2.2.2.2.2.2.2.2.2⟩) one3.h ?_
      rw [List.set_set]
      refine s4 ?_
      refine L_binV rfl rfl rfl (bv_addR (by unfold inR; omega)) ?_
      refine s2 ?_
      rw [show ((((k0 + cnts (x1.take i)) + 6) : Nat) : Int) + 1 = ((((k0 + cnts (x1.take i)) + 7) : Nat) : Int) from rfl]
      refine s5 ?_
      refine L_indexAddr rfl rfl rfl el29.h rfl (by omega) ?_
      refine s2 ?_
      refine L_storeElF (fo := 7) (x' := (((((k0 + cnts (x1.take i)) : Nat) : Int), ((((k0 + cnts (x1.take i)) + 1) : Nat) : Int), ((((k0 + cnts (x1.take i)) + 2) : Nat) : Int), (((((k0 + cnts (x1.take i)) + 3) : Nat) : Int), ((((k0 + cnts (x1.take i)) + 4) : Nat) : Int)), ((((k0 + cnts (x1.take i)) + 5) : Nat) : Int), (((((k0 + cnts (x1.take i)) + 6) : Nat) : Int), ((((k0 + cnts (x1.take i)) + 7) : Nat) : Int), b63, b64, b65, b66, b67, b68), b7, b8, b9, b10, b11) : T_EMsg)) rfl rfl pk rfl (show (((half k0 i x1).set i (((((k0 + cnts (x1.take i)) : Nat) : Int), ((((k0 + cnts (x1.take i)) + 1) : Nat) : Int), ((((k0 + cnts (x1.take i)) + 2) : Nat) : Int), (((((k0 + cnts (x1.take i)) + 3) : Nat) : Int), ((((k0 + cnts (x1.take i)) + 4) : Nat) : Int)), ((((k0 + cnts (x1.take i)) + 5) : Nat) : Int), (((((k0 + cnts (x1.take i)) + 6) : Nat) : Int), b62, b63, b64, b65, b66, b67, b68), b7, b8, b9, b10, b11) : T_EMsg)) : List T_EMsg)[i]? = some (((((k0 + cnts (x1.take i)) : Nat) : Int), ((((k0 + cnts (x1.take i)) + 1) : Nat) : Int), ((((k0 + cnts (x1.take i)) + 2) : Nat) : Int), (((((k0 + cnts (x1.take i)) + 3) : Nat) : Int), ((((k0 + cnts (x1.take i)) + 4) : Nat) : Int)), ((((k0 + cnts (x1.take i)) + 5) : Nat) : Int), (((((k0 + cnts (x1.take i)) + 6) : Nat) : Int), b62, b63, b64, b65, b66, b67, b68), b7, b8, b9, b10, b11) : T_EMsg) from set_get (half_get (k := k0) hu)) rfl rfl (by decide) rfl (fun w h => by exact ⟨h.1, h.2.1, h.2.2.1, ⟨h.2.2.2.1.1, h.2.2.2.1.2⟩, h.2.2.2.2.1, ⟨h.2.2.2.2.2.1.1, (by exact trivial), h.2.2.2.2.2.1.2.2.1, h.2.2.2.2.2.1.2.2.2.1, h.2.2.2.2.2.1.2.2.2.2.1, h.2.2.2.2.2.1.2.2.2.2.2.1, h.2.2.2.2.2.1.2.2.2.2.2.2.1, h.2.2.2.2.2.1.2.2.2.2.2.2.2⟩, h.2.2.2.2.2.2.1, h.2.2.2.2.2.2.2.1, h.2.2.2.2.2.2.2.2.1, h.2.2.2.2.2.2.2.2.2.1, h.2.2.2.2.2.2.2.2.2.2⟩) one3.h ?_
      rw [List.set_set]
      refine s4 ?_
      refine L_binV rfl rfl rfl (bv_addR (by unfold inR; omega)) ?_
      refine s2 ?_
      rw [show ((((k0 + cnts (x1.take i)) + 7) : Nat) : Int) + 1 = ((((k0 + cnts (x1.take i)) + 8) : Nat) : Int) from rfl]
      refine s5 ?_
      refine L_indexAddr rfl rfl rfl el29.h rfl (by omega) ?_
      refine s2 ?_
      refine L_storeElF (fo := 8) (x' := (((((k0 + cnts (x1.take i)) : Nat) : Int), ((((k0 + cnts (x1.take i)) + 1) : Nat) : Int), ((((k0 + cnts (x1.take i)) + 2) : Nat) : Int), (((((k0 + cnts (x1.take i)) + 3) : Nat) : Int), ((((k0 + cnts (x1.take i)) + 4) : Nat) : Int)), ((((k0 + cnts (x1.take i)) + 5) : Nat) : Int), (((((k0 + cnts (x1.take i)) + 6) : Nat) : Int), ((((k0 + cnts (x1.take i)) + 7) : Nat) : Int), ((((k0 + cnts (x1.take i)) + 8) : Nat) : Int), b64, b65, b66, b67, b68), b7, b8, b9, b10, b11) : T_EMsg)) rfl rfl pk rfl (show (((half k0 i x1).set i (((((k0 + cnts (x1.take i)) : Nat) : Int), ((((k0 + cnts (x1.take i)) + 1) : Nat) : Int), ((((k0 + cnts (x1.take i)) + 2) : Nat) : Int), (((((k0 + cnts (x1.take i)) + 3) : Nat) : Int), ((((k0 + cnts (x1.take i)) + 4) : Nat) : Int)), ((((k0 + cnts (x1.take i)) + 5) : Nat) : Int), (((((k0 + cnts (x1.take i)) + 6) : Nat) : Int), ((((k0 + cnts (x1.take i)) + 7) : Nat) : Int), b63, b64, b65, b66, b67, b68), b7, b8, b9, b10, b11) : T_EMsg)) : List T_EMsg)[i]? = some (((((k0 + cnts (x1.take i)) : Nat) : Int), ((((k0 + cnts (x1.take i)) + 1) : Nat) : Int), ((((k0 + cnts (x1.take i)) + 2) : Nat) : Int), (((((k0 + cnts (x1.take i)) + 3) : Nat) : Int), ((((k0 + cnts (x1.take i)) + 4) : Nat) : Int)), ((((k0 + cnts (x1.take i)) + 5) : Nat) : Int), (((((k0 + cnts (x1.take i)) + 6) : Nat) : Int), ((((k0 + cnts (x1.take i)) + 7) : Nat) : Int), b63, b64, b65, b66, b67, b68), b7, b8, b9, b10, b11) : T_EMsg) from set_get (half_get (k := k0) hu)) rfl rfl (by decide) rfl (fun w h => by exact ⟨h.1, h.2.1, h.2.2.1, ⟨h.2.2.2.1.1, h.2.2.2.1.2⟩, h.2.2.2.2.1, ⟨h.2.2.2.2.2.1.1, h.2.2.2.2.2.1.2.1, (by exact trivial), h.2.2.2.2.2.1.2.2.2.1, h.2.2.2.2.2.1.2.2.2.2.1, h.2.2.2.2.2.1.2.2.2.2.2.1, h.2.2.2.2.2.1.2.2.2.2.2.2.1, h.2.2.2.2.2.1.2.2.2.2.2.2.2⟩, h.2.2.2.2.2.2.1, h.2.2.2.2.2.2.2.1, h.2.2.2.2.2.2.2.2.1, h.2.2.2.2.2.2.2.2.2.1, h.2.2.2.2.2.2.2.2.2.2⟩) one3.h ?_
      rw [List.set_set]
      refine s4 ?_
      refine L_binV rfl rfl rfl (bv_addR (by unfold inR; omega)) ?_
      refine s2 ?_
      rw [show ((((k0 + cnts (x1.take i)) + 8) : Nat) : Int) + 1 = ((((k0 + cnts (x1.take i)) + 9) : Nat) : Int) from rfl]
      refine s5 ?_
      refine L_callX rfl fn52.h rfl (by exact fun w hw => markText_spec w ((k0 + cnts (x1.take i)) + 9) (by omega) (by omega)) ?_
      refine L_indexAddr rfl rfl rfl el29.h rfl (by omega) ?_
      refine s2 ?_
      refine L_storeElF (fo := 9) (x' := (((((k0 + cnts (x1.take i)) : Nat) : Int), ((((k0 + cnts (x1.take i)) + 1) : Nat) : Int), ((((k0 + cnts (x1.take i)) + 2) : Nat) : Int), (((((k0 + cnts (x1.take i)) + 3) : Nat) : Int), ((((k0 + cnts (x1.take i)) + 4) : Nat) : Int)), ((((k0 + cnts (x1.take i)) + 5) : Nat) : Int), (((((k0 + cnts (x1.take i)) + 6) : Nat) : Int), ((((k0 + cnts (x1.take i)) + 7) : Nat) : Int), ((((k0 + cnts (x1.take i)) + 8) : Nat) : Int), (mtx ((k0 + cnts (x1.take i)) + 9)), b65, b66, b67, b68), b7, b8, b9, b10, b11) : T_EMsg)) rfl rfl pk rfl (show (((half k0 i x1).set i (((((k0 + cnts (x1.take i)) : Nat) : Int), ((((k0 + cnts (x1.take i)) + 1) : Nat) : Int), ((((k0 + cnts (x1.take i)) + 2) : Nat) : Int), (((((k0 + cnts (x1.take i)) + 3) : Nat) : Int), ((((k0 + cnts (x1.take i)) + 4) : Nat) : Int)), ((((k0 + cnts (x1.take i)) + 5) : Nat) : Int), (((((k0 + cnts (x1.take i)) + 6) : Nat) : Int), ((((k0 + cnts (x1.take i)) + 7) : Nat) : Int), ((((k0 + cnts (x1.take i)) + 8) : Nat) : Int), b64, b65, b66, b67, b68), b7, b8, b9, b10, b11) : T_EMsg)) : List T_EMsg)[i]? = some (((((k0 + cnts (x1.take i)) : Nat) : Int), ((((k0 + cnts (x1.take i)) + 1) : Nat) : Int), ((((k0 + cnts (x1.take i)) + 2) : Nat) : Int), (((((k0 + cnts (x1.take i)) + 3) : Nat) : Int), ((((k0 + cnts (x1.take i)) + 4) : Nat) : Int)), ((((k0 + cnts (x1.take i)) + 5) : Nat) : Int), (((((k0 + cnts (x1.take i)) + 6) : Nat) : Int), ((((k0 + cnts (x1.take i)) + 7) : Nat) : Int), ((((k0 + cnts (x1.take i)) + 8) : Nat) : Int), b64, b65, b66, b67, b68), b7, b8, b9, b10, b11) : T_EMsg) from set_get (half_get (k := k0) hu)) rfl rfl (by decide) rfl (fun w h => by exact ⟨h.1, h.2.1, h.2.2.1, ⟨h.2.2.2.1.1, h.2.2.2.1.2⟩, h.2.2.2.2.1, ⟨h.2.2.2.2.2.1.1, h.2.2.2.2.2.1.2.1, h.2.2.2.2.2.1.2.2.1, (by exact trivial), h.2.2.2.2.2.1.2.2.2.2.1, h.2.2.2.2.2.1.2.2.2.2.2.1, h.2.2.2.2.2.1.2.2.2.2.2.2.1, h.2.2.2.2.2.1.2.2.2.2.2.2.2⟩, h.2.2.2.2.2.2.1, h.2.2.2.2.2.2.2.1, h.2.2.2.2.2.2.2.2.1, h.2.2.2.2.2.2.2.2.2.1, h.2.2.2.2.2.2.2.2.2.2⟩) one9.h ?_
      rw [List.set_set]
      refine s4 ?_
      refine L_binV rfl rfl rfl (bv_addR (by unfold inR; omega)) ?_
      refine s2 ?_
      rw [show ((((k0 + cnts (x1.take i)) + 9) : Nat) : Int) + 1 = ((((k0 + cnts (x1.take i)) + 10) : Nat) : Int) from rfl]
      refine s5 ?_
      refine L_callX rfl fn52.h rfl (by exact fun w hw => markText_spec w ((k0 + cnts (x1.take i)) + 10) (by omega) (by omega)) ?_
      refine L_indexAddr rfl rfl rfl el29.h rfl (by omega) ?_
      refine s2 ?_
      refine L_storeElF (fo := 10) (x' := (((((k0 + cnts (x1.take i)) : Nat) : Int), ((((k0 + cnts (x1.take i)) + 1) : Nat) : Int), ((((k0 + cnts (x1.take i)) + 2) : Nat) : Int), (((((k0 + cnts (x1.take i)) + 3) : Nat) : Int), ((((k0 + cnts (x1.take i)) + 4) : Nat) : Int)), ((((k0 + cnts (x1.take i)) + 5) : Nat) : Int), (((((k0 + cnts (x1.take i)) + 6) : Nat) : Int), ((((k0 + cnts (x1.take i)) + 7) : Nat) : Int), ((((k0 + cnts (x1.take i)) + 8) : Nat) : Int), (mtx ((k0 + cnts (x1.take i)) + 9)), (mtx ((k0 + cnts (x1.take i)) + 10)), b66, b67, b68), b7, b8, b9, b10, b11) : T_EMsg)) rfl rfl pk rfl (show (((half k0 i x1).set i (((((k0 + cnts (x1.take i)) : Nat) : Int), ((((k0 + cnts (x1.take i)) + 1) : Nat) : Int), ((((k0 + cnts (x1.take i)) + 2) : Nat) : Int), (((((k0 + cnts (x1.take i)) + 3) : Nat) : Int), ((((k0 + cnts (x1.take i)) + 4) : Nat) : Int)), ((((k0 + cnts (x1.take i)) + 5) : Nat) : Int), (((((k0 + cnts (x1.take i)) + 6) : Nat) : Int), ((((k0 + cnts (x1.take i)) + 7) : Nat) : Int), ((((k0 + cnts (x1.take i)) + 8) : Nat) : Int), (mtx ((k0 + cnts (x1.take i)) + 9)), b65, b66, b67, b68), b7, b8, b9, b10, b11) : T_EMsg)) : List T_EMsg)[i]? = some (((((k0 + cnts (x1.take i)) : Nat) : Int), ((((k0 + cnts (x1.take i)) + 1) : Nat) : Int), ((((k0 + cnts (x1.take i)) + 2) : Nat) : Int), (((((k0 + cnts (x1.take i)) + 3) : Nat) : Int), ((((k0 + cnts (x1.take i)) + 4) : Nat) : Int)), ((((k0 + cnts (x1.take i)) + 5) : Nat) : Int), (((((k0 + cnts (x1.take i)) + 6) : Nat) : Int), ((((k0 + cnts (x1.take i)) + 7) : Nat) : Int), ((((k0 + cnts (x1.take i)) + 8) : Nat) : Int), (mtx ((k0 + cnts (x1.take i)) + 9)), b65, b66, b67, b68), b7, b8, b9, b10, b11) : T_EMsg) from set_get (half_get (k := k0) hu)) rfl rfl (by decide) rfl (fun w h => by exact ⟨h.1, h.2.1, h.2.2.1, ⟨h.2.2.2.1.1, h.2.2.2.1.2⟩, h.2.2.2.2.1, ⟨h.2.2.2.2.2.1.1, h.2.2.2.2.2.1.2.1, h.2.2.2.2.2.1.2.2.1, h.2.2.2.2.2.1.2.2.2.1, (by exact trivial), h.2.2.2.2.2.1.2.2.2.2.2.1, h.2.2.2.2.2.1.2.2.2.2.2.2.1, h.2.2.2.2.2.1.2.2.2.2.2.2.2⟩, h.2.2.2.2.2.2.1, h.2.2.2.2.2.2.2.1, h.2.2.2.2.2.2.2.2.1, h.2.2.2.2.2.2.2.2.2.1, h.2.2.2.2.2.2.2.2.2.2⟩) one9.h ?_
      rw [List.set_set]
      refine s4 ?_
      refine L_binV rfl rfl rfl (bv_addR (by unfold inR; omega)) ?_
      refine s2 ?_
      rw [show ((((k0 + cnts (x1.take i)) + 10) : Nat) : Int) + 1 = ((((k0 + cnts (x1.take i)) + 11) : Nat) : Int) from rfl]
      refine s5 ?_
      refine L_callX rfl fn52.h rfl (by exact fun w hw => markText_spec w ((k0 + cnts (x1.take i)) + 11) (by omega) (by omega)) ?_
      refine L_indexAddr rfl rfl rfl el29.h rfl (by omega) ?_
      refine s2 ?_
      refine L_storeElF (fo := 11) (x' := (((((k0 + cnts (x1.take i)) : Nat) : Int), ((((k0 + cnts (x1.take i)) + 1) : Nat) : Int), ((((k0 + cnts (x1.take i)) + 2) : Nat) : Int), (((((k0 + cnts (x1.take i)) + 3) : Nat) : Int), ((((k0 + cnts (x1.take i)) + 4) : Nat) : Int)), ((((k0 + cnts (x1.take i)) + 5) : Nat) : Int), (((((k0 + cnts (x1.take i)) + 6) : Nat) : Int), ((((k0 + cnts (x1.take i)) + 7) : Nat) : Int), ((((k0 + cnts (x1.take i)) + 8) : Nat) : Int), (mtx ((k0 + cnts (x1.take i)) + 9)), (mtx ((k0 + cnts (x1.take i)) + 10)), (mtx ((k0 + cnts (x1.take i)) + 11)), b67, b68), b7, b8, b9, b10, b11) : T_EMsg)) rfl rfl pk rfl (show (((half k0 i x1).set i (((((k0 + cnts (x1.take i)) : Nat) : Int), ((((k0 + cnts (x1.take i)) + 1) : Nat) : Int), ((((k0 + cnts (x1.take i)) + 2) : Nat) : Int), (((((k0 + cnts (x1.take i)) + 3) : Nat) : Int), ((((k0 + cnts (x1.take i)) + 4) : Nat) : Int)), ((((k0 + cnts (x1.take i)) + 5) : Nat) : Int), (((((k0 + cnts (x1.take i)) + 6) : Nat) : Int), ((((k0 + cnts (x1.take i)) + 7) : Nat) : Int), ((((k0 + cnts (x1.take i)) + 8) : Nat) : Int), (mtx ((k0 + cnts (x1.take i)) + 9)), (mtx ((k0 + cnts (x1.take i)) + 10)), b66, b67, b68), b7, b8, b9, b10, b11) : T_EMsg)) : List T_EMsg)[i]? = some (((((k0 + cnts (x1.take i)) : Nat) : Int), ((((k0 + cnts (x1.take i)) + 1) : Nat) : Int), ((((k0 + cnts (x1.take i)) + 2) : Nat) : Int), (((((k0 + cnts (x1.take i)) + 3) : Nat) : Int), ((((k0 + cnts (x1.take i)) + 4) : Nat) : Int)), ((((k0 + cnts (x1.take i)) + 5) : Nat) : Int), (((((k0 + cnts (x1.take i)) + 6) : Nat) : Int), ((((k0 + cnts (x1.take i)) + 7) : Nat) : Int), ((((k0 + cnts (x1.take i)) + 8) : Nat) : Int), (mtx ((k0 + cnts (x1.take i)) + 9)), (mtx ((k0 + cnts (x1.take i)) + 10)), b66, b67, b68), b7, b8, b9, b10, b11) : T_EMsg) from set_get (half_get (k := k0) hu)) rfl rfl (by decide) rfl (fun w h => by exact ⟨h.1, h.2.1, h.2.2.1, ⟨h.2.2.2.1.1, h.2.2.2.1.2⟩, h.2.2.2.2.1, ⟨h.2.2.2.2.2.1.1, h.2.2.2.2.2.1.2.1, h.2.2.2.2.2.1.2.2.1, h.2.2.2.2.2.1.2.2.2.1, h.2.2.2.2.2.1.2.2.2.2.1, (by exact trivial), h.2.2.2.2.2.1.2.2.2.2.2.2.1, h.2.2.2.2.2.1.2.2.2.2.2.2.2⟩, h.2.2.2.2.2.2.1, h.2.2.2.2.2.2.2.1, h.2.2.2.2.2.2.2.2.1, h.2.2.2.2.2.2.2.2.2.1, h.2.2.2.2.2.2.2.2.2.2⟩) one9.h ?_
      rw [List.set_set]
      refine s4 ?_
      refine L_binV rfl rfl rfl (bv_addR (by unfold inR; omega)) ?_
      refine s2 ?_
      rw [show ((((k0 + cnts (x1.take i)) + 11) : Nat) : Int) + 1 = ((((k0 + cnts (x1.take i)) + 12) : Nat) : Int) from rfl]
      refine s5 ?_
      refine L_indexAddr rfl rfl rfl el29.h rfl (by omega) ?_
      refine s2 ?_
      refine L_storeElF (fo := 12) (x' := (((((k0 + cnts (x1.take i)) : Nat) : Int), ((((k0 + cnts (x1.take i)) + 1) : Nat) : Int), ((((k0 + cnts (x1.take i)) + 2) : Nat) : Int), (((((k0 + cnts (x1.take i)) + 3) : Nat) : Int), ((((k0 + cnts (x1.take i)) + 4) : Nat) : Int)), ((((k0 + cnts (x1.take i)) + 5) : Nat) : Int), (((((k0 + cnts (x1.take i)) + 6) : Nat) : Int), ((((k0 + cnts (x1.take i)) + 7) : Nat) : Int), ((((k0 + cnts (x1.take i)) + 8) : Nat) : Int), (mtx ((k0 + cnts (x1.take i)) + 9)), (mtx ((k0 + cnts (x1.take i)) + 10)), (mtx ((k0 + cnts (x1.take i)) + 11)), ((((k0 + cnts (x1.take i)) + 12) : Nat) : Int), b68), b7, b8, b9, b10, b11) : T_EMsg)) rfl rfl pk rfl (show (((half k0 i x1).set i (((((k0 + cnts (x1.take i)) : Nat) : Int), ((((k0 + cnts (x1.take i)) + 1) : Nat) : Int), ((((k0 + cnts (x1.take i)) + 2) : Nat) : Int), (((((k0 + cnts (x1.take i)) + 3) : Nat) : Int), ((((k0 + cnts (x1.take i)) + 4) : Nat) : Int)), ((((k0 + cnts (x1.take i)) + 5) : Nat) : Int), (((((k0 + cnts (x1.take i)) + 6) : Nat) : Int), ((((k0 + cnts (x1.take i)) + 7) : Nat) : Int), ((((k0 + cnts (x1.take i)) + 8) : Nat) : Int), (mtx ((k0 + cnts (x1.take i)) + 9)), (mtx ((k0 + cnts (x1.take i)) + 10)), (mtx ((k0 + cnts (x1.take i)) + 11)), b67, b68), b7, b8, b9, b10, b11) : T_EMsg)) : List T_EMsg)[i]? = some (((((k0 + cnts (x1.take i)) : Nat) : Int), ((((k0 + cnts (x1.take i)) + 1) : Nat) : Int), ((((k0 + cnts (x1.take i)) + 2) : Nat) : Int), (((((k0 + cnts (x1.take i)) + 3) : Nat) : Int), ((((k0 + cnts (x1.take i)) + 4) : Nat) : Int)), ((((k0 + cnts (x1.take i)) + 5) : Nat) : Int), (((((k0 + cnts (x1.take i)) + 6) : Nat) : Int), ((((k0 + cnts (x1.take i)) + 7) : Nat) : Int), ((((k0 + cnts (x1.take i)) + 8) : Nat) : Int), (mtx ((k0 + cnts (x1.take i)) + 9)), (mtx ((k0 + cnts (x1.take i)) + 10)), (mtx ((k0 + cnts (x1.take i)) + 11)), b67, b68), b7, b8, b9, b10, b11) : T_EMsg) from set_get (half_get (k := k0) hu)) rfl rfl (by decide) rfl (fun w h => by exact ⟨h.1, h.2.1, h.2.2.1, ⟨h.2.2.2.1.1, h.2.2.2.1.2⟩, h.2.2.2.2.1, ⟨h.2.2.2.2.2.1.1, h.2.2.2.2.2.1.2.1, h.2.2.2.2.2.1.2.2.1, h.2.2.2.2.2.1.2.2.2.1, h.2.2.2.2.2.1.2.2.2.2.1, h.2.2.2.2.2.1.2.2.2.2.2.1, (by exact trivial), h.2.2.2.2.2.1.2.2.2.2.2.2.2⟩, h.2.2.2.2.2.2.1, h.2.2.2.2.2.2.2.1, h.2.2.2.2.2.2.2.2.1, h.2.2.2.2.2.2.2.2.2.1, h.2.2.2.2.2.2.2.2.2.2⟩) one3.h ?_
      rw [List.set_set]
      refine s4 ?_
      refine L_binV rfl rfl rfl (bv_addR (by unfold inR; omega)) ?_
      refine s2 ?_
      rw [show ((((k0 + cnts (x1.take i)) + 12) : Nat) : Int) + 1 = ((((k0 + cnts (x1.take i)) + 13) : Nat) : Int) from rfl]
      refine s4 ?_
      refine L_indexAddr rfl rfl rfl el29.h rfl (by omega) ?_
      refine s2 ?_
      refine L_load (fo := 13) rfl rfl (by exact RdC.el (L := (⟨some ⟨g, 0, none⟩, c1, e1, ((half k0 i x1).set i (((((k0 + cnts (x1.take i)) : Nat) : Int), ((((k0 + cnts (x1.take i)) + 1) : Nat) : Int), ((((k0 + cnts (x1.take i)) + 2) : Nat) : Int), (((((k0 + cnts (x1.take i)) + 3) : Nat) : Int), ((((k0 + cnts (x1.take i)) + 4) : Nat) : Int)), ((((k0 + cnts (x1.take i)) + 5) : Nat) : Int), (((((k0 + cnts (x1.take i)) + 6) : Nat) : Int), ((((k0 + cnts (x1.take i)) + 7) : Nat) : Int), ((((k0 + cnts (x1.take i)) + 8) : Nat) : Int), (mtx ((k0 + cnts (x1.take i)) + 9)), (mtx ((k0 + cnts (x1.take i)) + 10)), (mtx ((k0 + cnts (x1.take i)) + 11)), ((((k0 + cnts (x1.take i)) + 12) : Nat) : Int), b68), b7, b8, b9, b10, b11) : T_EMsg)), y1⟩ : TL T_EMsg)) mm rfl (show (((half k0 i x1).set i (((((k0 + cnts (x1.take i)) : Nat) : Int), ((((k0 + cnts (x1.take i)) + 1) : Nat) : Int), ((((k0 + cnts (x1.take i)) + 2) : Nat) : Int), (((((k0 + cnts (x1.take i)) + 3) : Nat) : Int), ((((k0 + cnts (x1.take i)) + 4) : Nat) : Int)), ((((k0 + cnts (x1.take i)) + 5) : Nat) : Int), (((((k0 + cnts (x1.take i)) + 6) : Nat) : Int), ((((k0 + cnts (x1.take i)) + 7) : Nat) : Int), ((((k0 + cnts (x1.take i)) + 8) : Nat) : Int), (mtx ((k0 + cnts (x1.take i)) + 9)), (mtx ((k0 + cnts (x1.take i)) + 10)), (mtx ((k0 + cnts (x1.take i)) + 11)), ((((k0 + cnts (x1.take i)) + 12) : Nat) : Int), b68), b7, b8, b9, b10, b11) : T_EMsg)) : List T_EMsg)[i]? = some (((((k0 + cnts (x1.take i)) : Nat) : Int), ((((k0 + cnts (x1.take i)) + 1) : Nat) : Int), ((((k0 + cnts (x1.take i)) + 2) : Nat) : Int), (((((k0 + cnts (x1.take i)) + 3) : Nat) : Int), ((((k0 + cnts (x1.take i)) + 4) : Nat) : Int)), ((((k0 + cnts (x1.take i)) + 5) : Nat) : Int), (((((k0 + cnts (x1.take i)) + 6) : Nat) : Int), ((((k0 + cnts (x1.take i)) + 7) : Nat) : Int), ((((k0 + cnts (x1.take i)) + 8) : Nat) : Int), (mtx ((k0 + cnts (x1.take i)) + 9)), (mtx ((k0 + cnts (x1.take i)) + 10)), (mtx ((k0 + cnts (x1.take i)) + 11)), ((((k0 + cnts (x1.take i)) + 12) : Nat) : Int), b68), b7, b8, b9, b10, b11) : T_EMsg) from set_get (half_get (k := k0) hu))) one63.h rfl ?_
      refine s1 ?_
      refine L_conv (fun w h => el_out (L := (⟨some ⟨g, 0, none⟩, c1, e1, ((half k0 i x1).set i (((((k0 + cnts (x1.take i)) : Nat) : Int), ((((k0 + cnts (x1.take i)) + 1) : Nat) : Int), ((((k0 + cnts (x1.take i)) + 2) : Nat) : Int), (((((k0 + cnts (x1.take i)) + 3) : Nat) : Int), ((((k0 + cnts (x1.take i)) + 4) : Nat) : Int)), ((((k0 + cnts (x1.take i)) + 5) : Nat) : Int), (((((k0 + cnts (x1.take i)) + 6) : Nat) : Int), ((((k0 + cnts (x1.take i)) + 7) : Nat) : Int), ((((k0 + cnts (x1.take i)) + 8) : Nat) : Int), (mtx ((k0 + cnts (x1.take i)) + 9)), (mtx ((k0 + cnts (x1.take i)) + 10)), (mtx ((k0 + cnts (x1.take i)) + 11)), ((((k0 + cnts (x1.take i)) + 12) : Nat) : Int), b68), b7, b8, b9, b10, b11) : T_EMsg)), y1⟩ : TL T_EMsg)) (show (((half k0 i x1).set i (((((k0 + cnts (x1.take i)) : Nat) : Int), ((((k0 + cnts (x1.take i)) + 1) : Nat) : Int), ((((k0 + cnts (x1.take i)) + 2) : Nat) : Int), (((((k0 + cnts (x1.take i)) + 3) : Nat) : Int), ((((k0 + cnts (x1.take i)) + 4) : Nat) : Int)), ((((k0 + cnts (x1.take i)) + 5) : Nat) : Int), (((((k0 + cnts (x1.take i)) + 6) : Nat) : Int), ((((k0 + cnts (x1.take i)) + 7) : Nat) : Int), ((((k0 + cnts (x1.take i)) + 8) : Nat) : Int), (mtx ((k0 + cnts (x1.take i)) + 9)), (mtx ((k0 + cnts (x1.take i)) + 10)), (mtx ((k0 + cnts (x1.take i)) + 11)), ((((k0 + cnts (x1.take i)) + 12) : Nat) : Int), b68), b7, b8, b9, b10, b11) : T_EMsg)) : List T_EMsg)[i]? = some (((((k0 + cnts (x1.take i)) : Nat) : Int), ((((k0 + cnts (x1.take i)) + 1) : Nat) : Int), ((((k0 + cnts (x1.take i)) + 2) : Nat) : Int), (((((k0 + cnts (x1.take i)) + 3) : Nat) : Int), ((((k0 + cnts (x1.take i)) + 4) : Nat) : Int)), ((((k0 + cnts (x1.take i)) + 5) : Nat) : Int), (((((k0 + cnts (x1.take i)) + 6) : Nat) : Int), ((((k0 + cnts (x1.take i)) + 7) : Nat) : Int), ((((k0 + cnts (x1.take i)) + 8) : Nat) : Int), (mtx ((k0 + cnts (x1.take i)) + 9)), (mtx ((k0 + cnts (x1.take i)) + 10)), (mtx ((k0 + cnts (x1.take i)) + 11)), ((((k0 + cnts (x1.take i)) + 12) : Nat) : Int), b68), b7, b8, b9, b10, b11) : T_EMsg) from set_get (half_get (k := k0) hu)) (frontPick pk h)) ?_
      refine L_conv (fun w h => tree_pair h) ?_
      refine L_conv (fun w h => frontPick (Pick.there _ (Pick.here _)) h) ?_
      refine L_conv (fun w h => tree_pair h) ?_
      refine L_conv (fun w h => frontPick (Pick.there _ (Pick.here _)) h) ?_
      refine L_conv (fun w h => tree_pair h) ?_
      refine L_conv (fun w h => frontPick (Pick.there _ (Pick.here _)) h) ?_
      refine L_conv (fun w h => tree_pair h) ?_
      refine L_conv (fun w h => frontPick (Pick.there _ (Pick.here _)) h) ?_
      refine L_conv (fun w h => tree_pair h) ?_
      refine L_conv (fun w h => frontPick (Pick.there _ (Pick.here _)) h) ?_
      refine L_conv (fun w h => tree_pair h) ?_
      refine L_conv (fun w h => tree_pair h) ?_
      refine L_conv (fun w h => frontPick (Pick.there _ (Pick.here _)) h) ?_
      refine L_conv (fun w h => tree_pair h) ?_
      refine L_conv (fun w h => frontPick (Pick.there _ (Pick.here _)) h) ?_
      refine L_conv (fun w h => tree_pair h) ?_
      refine L_conv (fun w h => frontPick (Pick.there _ (Pick.here _)) h) ?_
      refine L_conv (fun w h => tree_pair h) ?_
      refine L_conv (fun w h => frontPick (Pick.there _ (Pick.here _)) h) ?_
      refine L_conv (fun w h => tree_pair h) ?_
      refine L_conv (fun w h => frontPick (Pick.there _ (Pick.here _)) h) ?_
      refine L_conv (fun w h => tree_pair h) ?_
      refine L_conv (fun w h => frontPick (Pick.there _ (Pick.here _)) h) ?_
      refine L_conv (fun w h => tree_pair h) ?_
      refine L_conv (fun w h => frontPick (Pick.there _ (Pick.here _)) h) ?_
      refine L_call1 rfl fn53.h rfl (Pick.here _) (by exact fun w hw => markStringS_spec w b68 ((k0 + cnts (x1.take i)) + 13) (by omega) (by omega)) ?_
      rintro v M1 ⟨hv, rfl⟩
      subst hv
      simp only [List.cons_append, List.nil_append]
      refine L_conv (fun w h => pairPick (Pick.here _) h) ?_
      refine L_conv (fun w h => pairPick (Pick.here _) h) ?_
      refine L_conv (fun w h => pairPick (Pick.here _) h) ?_
      refine L_conv (fun w h => pairPick (Pick.here _) h) ?_
      refine L_conv (fun w h => pairPick (Pick.here _) h) ?_
      refine L_conv (fun w h => pairPick (Pick.here _) h) ?_
      refine L_conv (fun w h => pairPick (Pick.here _) h) ?_
      refine L_conv (fun w h => pairFront (Pick.here _) h) ?_
      refine L_conv (fun w h => pairPick (Pick.here _) h) ?_
      refine L_conv (fun w h => pairPick (Pick.here _) h) ?_
      refine L_conv (fun w h => pairPick (Pick.here _) h) ?_
      refine L_conv (fun w h => pairPick (Pick.here _) h) ?_
      refine L_conv (fun w h => pairPick (Pick.here _) h) ?_
      refine L_conv (M' := treeH (⟨some ⟨g, 0, none⟩, c1, e1, (((half k0 i x1).set i (((((k0 + cnts (x1.take i)) : Nat) : Int), ((((k0 + cnts (x1.take i)) + 1) : Nat) : Int), ((((k0 + cnts (x1.take i)) + 2) : Nat) : Int), (((((k0 + cnts (x1.take i)) + 3) : Nat) : Int), ((((k0 + cnts (x1.take i)) + 4) : Nat) : Int)), ((((k0 + cnts (x1.take i)) + 5) : Nat) : Int), (((((k0 + cnts (x1.take i)) + 6) : Nat) : Int), ((((k0 + cnts (x1.take i)) + 7) : Nat) : Int), ((((k0 + cnts (x1.take i)) + 8) : Nat) : Int), (mtx ((k0 + cnts (x1.take i)) + 9)), (mtx ((k0 + cnts (x1.take i)) + 10)), (mtx ((k0 + cnts (x1.take i)) + 11)), ((((k0 + cnts (x1.take i)) + 12) : Nat) : Int), b68), b7, b8, b9, b10, b11) : T_EMsg)).set i (((((k0 + cnts (x1.take i)) : Nat) : Int), ((((k0 + cnts (x1.take i)) + 1) : Nat) : Int), ((((k0 + cnts (x1.take i)) + 2) : Nat) : Int), (((((k0 + cnts (x1.take i)) + 3) : Nat) : Int), ((((k0 + cnts (x1.take i)) + 4) : Nat) : Int)), ((((k0 + cnts (x1.take i)) + 5) : Nat) : Int), (((((k0 + cnts (x1.take i)) + 6) : Nat) : Int), ((((k0 + cnts (x1.take i)) + 7) : Nat) : Int), ((((k0 + cnts (x1.take i)) + 8) : Nat) : Int), (mtx ((k0 + cnts (x1.take i)) + 9)), (mtx ((k0 + cnts (x1.take i)) + 10)), (mtx ((k0 + cnts (x1.take i)) + 11)), ((((k0 + cnts (x1.take i)) + 12) : Nat) : Int), (Mk.mkd ((k0 + cnts (x1.take i)) + 13) b68)), b7, b8, b9, b10, b11) : T_EMsg)), y1⟩ : TL T_EMsg) :: _) (fun w h => el_in (L := (⟨some ⟨g, 0, none⟩, c1, e1, ((half k0 i x1).set i (((((k0 + cnts (x1.take i)) : Nat) : Int), ((((k0 + cnts (x1.take i)) + 1) : Nat) : Int), ((((k0 + cnts (x1.take i)) + 2) : Nat) : Int), (((((k0 + cnts (x1.take i)) + 3) : Nat) : Int), ((((k0 + cnts (x1.take i)) + 4) : Nat) : Int)), ((((k0 + cnts (x1.take i)) + 5) : Nat) : Int), (((((k0 + cnts (x1.take i)) + 6) : Nat) : Int), ((((k0 + cnts (x1.take i)) + 7) : Nat) : Int), ((((k0 + cnts (x1.take i)) + 8) : Nat) : Int), (mtx ((k0 + cnts (x1.take i)) + 9)), (mtx ((k0 + cnts (x1.take i)) + 10)), (mtx ((k0 + cnts (x1.take i)) + 11)), ((((k0 + cnts (x1.take i)) + 12) : Nat) : Int), b68), b7, b8, b9, b10, b11) : T_EMsg)), y1⟩ : TL T_EMsg)) (show (((half k0 i x1).set i (((((k0 + cnts (x1.take i)) : Nat) : Int), ((((k0 + cnts (x1.take i)) + 1) : Nat) : Int), ((((k0 + cnts (x1.take i)) + 2) : Nat) : Int), (((((k0 + cnts (x1.take i)) + 3) : Nat) : Int), ((((k0 + cnts (x1.take i)) + 4) : Nat) : Int)), ((((k0 + cnts (x1.take i)) + 5) : Nat) : Int), (((((k0 + cnts (x1.take i)) + 6) : Nat) : Int), ((((k0 + cnts (x1.take i)) + 7) : Nat) : Int), ((((k0 + cnts (x1.take i)) + 8) : Nat) : Int), (mtx ((k0 + cnts (x1.take i)) + 9)), (mtx ((k0 + cnts (x1.take i)) + 10)), (mtx ((k0 + cnts (x1.take i)) + 11)), ((((k0 + cnts (x1.take i)) + 12) : Nat) : Int), b68), b7, b8, b9, b10, b11) : T_EMsg)) : List T_EMsg)[i]? = some (((((k0 + cnts (x1.take i)) : Nat) : Int), ((((k0 + cnts (x1.take i)) + 1) : Nat) : Int), ((((k0 + cnts (x1.take i)) + 2) : Nat) : Int), (((((k0 + cnts (x1.take i)) + 3) : Nat) : Int), ((((k0 + cnts (x1.take i)) + 4) : Nat) : Int)), ((((k0 + cnts (x1.take i)) + 5) : Nat) : Int), (((((k0 + cnts (x1.take i)) + 6) : Nat) : Int), ((((k0 + cnts (x1.take i)) + 7) : Nat) : Int), ((((k0 + cnts (x1.take i)) + 8) : Nat) : Int), (mtx ((k0 + cnts (x1.take i)) + 9)), (mtx ((k0 + cnts (x1.take i)) + 10)), (mtx ((k0 + cnts (x1.take i)) + 11)), ((((k0 + cnts (x1.take i)) + 12) : Nat) : Int), b68), b7, b8, b9, b10, b11) : T_EMsg) from set_get (half_get (k := k0) hu)) (by simp only [cells_pair, cells_mkTL]) h) ?_
      rw [List.set_set]
      refine s7 ?_
      refine L_indexAddr rfl rfl rfl el29.h rfl (by omega) ?_
      refine s1 ?_
      refine L_storeElF (fo := 14) (x' := (((((k0 + cnts (x1.take i)) : Nat) : Int), ((((k0 + cnts (x1.take i)) + 1) : Nat) : Int), ((((k0 + cnts (x1.take i)) + 2) : Nat) : Int), (((((k0 + cnts (x1.take i)) + 3) : Nat) : Int), ((((k0 + cnts (x1.take i)) + 4) : Nat) : Int)), ((((k0 + cnts (x1.take i)) + 5) : Nat) : Int), (((((k0 + cnts (x1.take i)) + 6) : Nat) : Int), ((((k0 + cnts (x1.take i)) + 7) : Nat) : Int), ((((k0 + cnts (x1.take i)) + 8) : Nat) : Int), (mtx ((k0 + cnts (x1.take i)) + 9)), (mtx ((k0 + cnts (x1.take i)) + 10)), (mtx ((k0 + cnts (x1.take i)) + 11)), ((((k0 + cnts (x1.take i)) + 12) : Nat) : Int), (Mk.mkd ((k0 + cnts (x1.take i)) + 13) b68)), (((((k0 + cnts (x1.take i)) + 13) + Mk.cnt b68) : Nat) : Int), b8, b9, b10, b11) : T_EMsg)) rfl rfl pk rfl (show (((half k0 i x1).set i (((((k0 + cnts (x1.take i)) : Nat) : Int), ((((k0 + cnts (x1.take i)) + 1) : Nat) : Int), ((((k0 + cnts (x1.take i)) + 2) : Nat) : Int), (((((k0 + cnts (x1.take i)) + 3) : Nat) : Int), ((((k0 + cnts (x1.take i)) + 4) : Nat) : Int)), ((((k0 + cnts (x1.take i)) + 5) : Nat) : Int), (((((k0 + cnts (x1.take i)) + 6) : Nat) : Int), ((((k0 + cnts (x1.take i)) + 7) : Nat) : Int), ((((k0 + cnts (x1.take i)) + 8) : Nat) : Int), (mtx ((k0 + cnts (x1.take i)) + 9)), (mtx ((k0 + cnts (x1.take i)) + 10)), (mtx ((k0 + cnts (x1.take i)) + 11)), ((((k0 + cnts (x1.take i)) + 12) : Nat) : Int), (Mk.mkd ((k0 + cnts (x1.take i)) + 13) b68)), b7, b8, b9, b10, b11) : T_EMsg)) : List T_EMsg)[i]? = some (((((k0 + cnts (x1.take i)) : Nat) : Int), ((((k0 + cnts (x1.take i)) + 1) : Nat) : Int), ((((k0 + cnts (x1.take i)) + 2) : Nat) : Int), (((((k0 + cnts (x1.take i)) + 3) : Nat) : Int), ((((k0 + cnts (x1.take i)) + 4) : Nat) : Int)), ((((k0 + cnts (x1.take i)) + 5) : Nat) : Int), (((((k0 + cnts (x1.take i)) + 6) : Nat) : Int), ((((k0 + cnts (x1.take i)) + 7) : Nat) : Int), ((((k0 + cnts (x1.take i)) + 8) : Nat) : Int), (mtx ((k0 + cnts (x1.take i)) + 9)), (mtx ((k0 + cnts (x1.take i)) + 10)), (mtx ((k0 + cnts (x1.take i)) + 11)), ((((k0 + cnts (x1.take i)) + 12) : Nat) : Int), (Mk.mkd ((k0 + cnts (x1.take i)) + 13) b68)), b7, b8, b9, b10, b11) : T_EMsg) from set_get (half_get (k := k0) hu)) rfl rfl (by decide) rfl (fun w h => by exact ⟨h.1, h.2.1, h.2.2.1, ⟨h.2.2.2.1.1, h.2.2.2.1.2⟩, h.2.2.2.2.1, ⟨h.2.2.2.2.2.1.1, h.2.2.2.2.2.1.2.1, h.2.2.2.2.2.1.2.2.1, h.2.2.2.2.2.1.2.2.2.1, h.2.2.2.2.2.1.2.2.2.2.1, h.2.2.2.2.2.1.2.2.2.2.2.1, h.2.2.2.2.2.1.2.2.2.2.2.2.1, h.2.2.2.2.2.1.2.2.2.2.2.2.2⟩, (by exact trivial), h.2.2.2.2.2.2.2.1, h.2.2.2.2.2.2.2.2.1, h.2.2.2.2.2.2.2.2.2.1, h.2.2.2.2.2.2.2.2.2.2⟩) one3.h ?_
      rw [List.set_set]
      refine s4 ?_
      refine L_binV rfl rfl rfl (bv_addR (by unfold inR; omega)) ?_
      refine s2 ?_
      rw [show (((((k0 + cnts (x1.take i)) + 13) + Mk.cnt b68) : Nat) : Int) + 1 = ((((((k0 + cnts (x1.take i)) + 13) + Mk.cnt b68) + 1) : Nat) : Int) from rfl]
      refine s4 ?_
      refine L_indexAddr rfl rfl rfl el29.h rfl (by omega) ?_
      refine s1 ?_
      refine L_load rfl rfl (by exact RdC.el (L := (⟨some ⟨g, 0, none⟩, c1, e1, ((half k0 i x1).set i (((((k0 + cnts (x1.take i)) : Nat) : Int), ((((k0 + cnts (x1.take i)) + 1) : Nat) : Int), ((((k0 + cnts (x1.take i)) + 2) : Nat) : Int), (((((k0 + cnts (x1.take i)) + 3) : Nat) : Int), ((((k0 + cnts (x1.take i)) + 4) : Nat) : Int)), ((((k0 + cnts (x1.take i)) + 5) : Nat) : Int), (((((k0 + cnts (x1.take i)) + 6) : Nat) : Int), ((((k0 + cnts (x1.take i)) + 7) : Nat) : Int), ((((k0 + cnts (x1.take i)) + 8) : Nat) : Int), (mtx ((k0 + cnts (x1.take i)) + 9)), (mtx ((k0 + cnts (x1.take i)) + 10)), (mtx ((k0 + cnts (x1.take i)) + 11)), ((((k0 + cnts (x1.take i)) + 12) : Nat) : Int), (Mk.mkd ((k0 + cnts (x1.take i)) + 13) b68)), (((((k0 + cnts (x1.take i)) + 13) + Mk.cnt b68) : Nat) : Int), b8, b9, b10, b11) : T_EMsg)), y1⟩ : TL T_EMsg)) mm rfl (show (((half k0 i x1).set i (((((k0 + cnts (x1.take i)) : Nat) : Int), ((((k0 + cnts (x1.take i)) + 1) : Nat) : Int), ((((k0 + cnts (x1.take i)) + 2) : Nat) : Int), (((((k0 + cnts (x1.take i)) + 3) : Nat) : Int), ((((k0 + cnts (x1.take i)) + 4) : Nat) : Int)), ((((k0 + cnts (x1.take i)) + 5) : Nat) : Int), (((((k0 + cnts (x1.take i)) + 6) : Nat) : Int), ((((k0 + cnts (x1.take i)) + 7) : Nat) : Int), ((((k0 + cnts (x1.take i)) + 8) : Nat) : Int), (mtx ((k0 + cnts (x1.take i)) + 9)), (mtx ((k0 + cnts (x1.take i)) + 10)), (mtx ((k0 + cnts (x1.take i)) + 11)), ((((k0 + cnts (x1.take i)) + 12) : Nat) : Int), (Mk.mkd ((k0 + cnts (x1.take i)) + 13) b68)), (((((k0 + cnts (x1.take i)) + 13) + Mk.cnt b68) : Nat) : Int), b8, b9, b10, b11) : T_EMsg)) : List T_EMsg)[i]? = some (((((k0 + cnts (x1.take i)) : Nat) : Int), ((((k0 + cnts (x1.take i)) + 1) : Nat) : Int), ((((k0 + cnts (x1.take i)) + 2) : Nat) : Int), (((((k0 + cnts (x1.take i)) + 3) : Nat) : Int), ((((k0 + cnts (x1.take i)) + 4) : Nat) : Int)), ((((k0 + cnts (x1.take i)) + 5) : Nat) : Int), (((((k0 + cnts (x1.take i)) + 6) : Nat) : Int), ((((k0 + cnts (x1.take i)) + 7) : Nat) : Int), ((((k0 + cnts (x1.take i)) + 8) : Nat) : Int), (mtx ((k0 + cnts (x1.take i)) + 9)), (mtx ((k0 + cnts (x1.take i)) + 10)), (mtx ((k0 + cnts (x1.take i)) + 11)), ((((k0 + cnts (x1.take i)) + 12) : Nat) : Int), (Mk.mkd ((k0 + cnts (x1.take i)) + 13) b68)), (((((k0 + cnts (x1.take i)) + 13) + Mk.cnt b68) : Nat) : Int), b8, b9, b10, b11) : T_EMsg) from set_get (half_get (k := k0) hu))) one51.h rfl ?_
      refine s1 ?_
      refine L_conv (fun w h => el_out (L := (⟨some ⟨g, 0, none⟩, c1, e1, ((half k0 i x1).set i (((((k0 + cnts (x1.take i)) : Nat) : Int), ((((k0 + cnts (x1.take i)) + 1) : Nat) : Int), ((((k0 + cnts (x1.take i)) + 2) : Nat) : Int), (((((k0 + cnts (x1.take i)) + 3) : Nat) : Int), ((((k0 + cnts (x1.take i)) + 4) : Nat) : Int)), ((((k0 + cnts (x1.take i)) + 5) : Nat) : Int), (((((k0 + cnts (x1.take i)) + 6) : Nat) : Int), ((((k0 + cnts (x1.take i)) + 7) : Nat) : Int), ((((k0 + cnts (x1.take i)) + 8) : Nat) : Int), (mtx ((k0 + cnts (x1.take i)) + 9)), (mtx ((k0 + cnts (x1.take i)) + 10)), (mtx ((k0 + cnts (x1.take i)) + 11)), ((((k0 + cnts (x1.take i)) + 12) : Nat) : Int), (Mk.mkd ((k0 + cnts (x1.take i)) + 13) b68)), (((((k0 + cnts (x1.take i)) + 13) + Mk.cnt b68) : Nat) : Int), b8, b9, b10, b11) : T_EMsg)), y1⟩ : TL T_EMsg)) (show (((half k0 i x1).set i (((((k0 + cnts (x1.take i)) : Nat) : Int), ((((k0 + cnts (x1.take i)) + 1) : Nat) : Int), ((((k0 + cnts (x1.take i)) + 2) : Nat) : Int), (((((k0 + cnts (x1.take i)) + 3) : Nat) : Int), ((((k0 + cnts (x1.take i)) + 4) : Nat) : Int)), ((((k0 + cnts (x1.take i)) + 5) : Nat) : Int), (((((k0 + cnts (x1.take i)) + 6) : Nat) : Int), ((((k0 + cnts (x1.take i)) + 7) : Nat) : Int), ((((k0 + cnts (x1.take i)) + 8) : Nat) : Int), (mtx ((k0 + cnts (x1.take i)) + 9)), (mtx ((k0 + cnts (x1.take i)) + 10)), (mtx ((k0 + cnts (x1.take i)) + 11)), ((((k0 + cnts (x1.take i)) + 12) : Nat) : Int), (Mk.mkd ((k0 + cnts (x1.take i)) + 13) b68)), (((((k0 + cnts (x1.take i)) + 13) + Mk.cnt b68) : Nat) : Int), b8, b9, b10, b11) : T_EMsg)) : List T_EMsg)[i]? = some (((((k0 + cnts (x1.take i)) : Nat) : Int), ((((k0 + cnts (x1.take i)) + 1) : Nat) : Int), ((((k0 + cnts (x1.take i)) + 2) : Nat) : Int), (((((k0 + cnts (x1.take i)) + 3) : Nat) : Int), ((((k0 + cnts (x1.take i)) + 4) : Nat) : Int)), ((((k0 + cnts (x1.take i)) + 5) : Nat) : Int), (((((k0 + cnts (x1.take i)) + 6) : Nat) : Int), ((((k0 + cnts (x1.take i)) + 7) : Nat) : Int), ((((k0 + cnts (x1.take i)) + 8) : Nat) : Int), (mtx ((k0 + cnts (x1.take i)) + 9)), (mtx ((k0 + cnts (x1.take i)) + 10)), (mtx ((k0 + cnts (x1.take i)) + 11)), ((((k0 + cnts (x1.take i)) + 12) : Nat) : Int), (Mk.mkd ((k0 + cnts (x1.take i)) + 13) b68)), (((((k0 + cnts (x1.take i)) + 13) + Mk.cnt b68) : Nat) : Int), b8, b9, b10, b11) : T_EMsg) from set_get (half_get (k := k0) hu)) (frontPick pk h)) ?_
      refine L_conv (fun w h => tree_pair h) ?_
      refine L_conv (fun w h => frontPick (Pick.there _ (Pick.here _)) h) ?_
      refine L_conv (fun w h => tree_pair h) ?_
      refine L_conv (fun w h => frontPick (Pick.there _ (Pick.here _)) h) ?_
      refine L_conv (fun w h => tree_pair h) ?_
      refine L_conv (fun w h => frontPick (Pick.there _ (Pick.here _)) h) ?_
      refine L_conv (fun w h => tree_pair h) ?_
      refine L_conv (fun w h => frontPick (Pick.there _ (Pick.here _)) h) ?_
      refine L_conv (fun w h => tree_pair h) ?_
      refine L_conv (fun w h => frontPick (Pick.there _ (Pick.here _)) h) ?_
      refine L_conv (fun w h => tree_pair h) ?_
      refine L_conv (fun w h => frontPick (Pick.there _ (Pick.here _)) h) ?_
      refine L_conv (fun w h => tree_pair h) ?_
      refine L_conv (fun w h => frontPick (Pick.there _ (Pick.here _)) h) ?_
      refine L_conv (fun w h => tree_pair h) ?_
      refine L_call1 rfl fn54.h rfl (Pick.here _) (by exact fun w hw => markIdS_spec w b8 ((((k0 + cnts (x1.take i)) + 13) + Mk.cnt b68) + 1) (by omega) (by omega)) ?_
      rintro v M1 ⟨hv, rfl⟩
      subst hv
      simp only [List.cons_append, List.nil_append]
      refine L_conv (fun w h => pairFront (Pick.here _) h) ?_
      refine L_conv (fun w h => pairPick (Pick.here _) h) ?_
      refine L_conv (fun w h => pairPick (Pick.here _) h) ?_
      refine L_conv (fun w h => pairPick (Pick.here _) h) ?_
      refine L_conv (fun w h => pairPick (Pick.here _) h) ?_
      refine L_conv (fun w h => pairPick (Pick.here _) h) ?_
      refine L_conv (fun w h => pairPick (Pick.here _) h) ?_
      refine L_conv (fun w h => pairPick (Pick.here _) h) ?_
      refine L_conv (M' := treeH (⟨some ⟨g, 0, none⟩, c1, e1, (((half k0 i x1).set i (((((k0 + cnts (x1.take i)) : Nat) : Int), ((((k0 + cnts (x1.take i)) + 1) : Nat) : Int), ((((k0 + cnts (x1.take i)) + 2) : Nat) : Int), (((((k0 + cnts (x1.take i)) + 3) : Nat) : Int), ((((k0 + cnts (x1.take i)) + 4) : Nat) : Int)), ((((k0 + cnts (x1.take i)) + 5) : Nat) : Int), (((((k0 + cnts (x1.take i)) + 6) : Nat) : Int), ((((k0 + cnts (x1.take i)) + 7) : Nat) : Int), ((((k0 + cnts (x1.take i)) + 8) : Nat) : Int), (mtx ((k0 + cnts (x1.take i)) + 9)), (mtx ((k0 + cnts (x1.take i)) + 10)), (mtx ((k0 + cnts (x1.take i)) + 11)), ((((k0 + cnts (x1.take i)) + 12) : Nat) : Int), (Mk.mkd ((k0 + cnts (x1.take i)) + 13) b68)), (((((k0 + cnts (x1.take i)) + 13) + Mk.cnt b68) : Nat) : Int), b8, b9, b10, b11) : T_EMsg)).set i (((((k0 + cnts (x1.take i)) : Nat) : Int), ((((k0 + cnts (x1.take i)) + 1) : Nat) : Int), ((((k0 + cnts (x1.take i)) + 2) : Nat) : Int), (((((k0 + cnts (x1.take i)) + 3) : Nat) : Int), ((((k0 + cnts (x1.take i)) + 4) : Nat) : Int)), ((((k0 + cnts (x1.take i)) + 5) : Nat) : Int), (((((k0 + cnts (x1.take i)) + 6) : Nat) : Int), ((((k0 + cnts (x1.take i)) + 7) : Nat) : Int), ((((k0 + cnts (x1.take i)) + 8) : Nat) : Int), (mtx ((k0 + cnts (x1.take i)) + 9)), (mtx ((k0 + cnts (x1.take i)) + 10)), (mtx ((k0 + cnts (x1.take i)) + 11)), ((((k0 + cnts (x1.take i)) + 12) : Nat) : Int), (Mk.mkd ((k0 + cnts (x1.take i)) + 13) b68)), (((((k0 + cnts (x1.take i)) + 13) + Mk.cnt b68) : Nat) : Int), (Mk.mkd ((((k0 + cnts (x1.take i)) + 13) + Mk.cnt b68) + 1) b8), b9, b10, b11) : T_EMsg)), y1⟩ : TL T_EMsg) :: _) (fun w h => el_in (L := (⟨some ⟨g, 0, none⟩, c1, e1, ((half k0 i x1).set i (((((k0 + cnts (x1.take i)) : Nat) : Int), ((((k0 + cnts (x1.take i)) + 1) : Nat) : Int), ((((k0 + cnts (x1.take i)) + 2) : Nat) : Int), (((((k0 + cnts (x1.take i)) + 3) : Nat) : Int), ((((k0 + cnts (x1.take i)) + 4) : Nat) : Int)), ((((k0 + cnts (x1.take i)) + 5) : Nat) : Int), (((((k0 + cnts (x1.take i)) + 6) : Nat) : Int), ((((k0 + cnts (x1.take i)) + 7) : Nat) : Int), ((((k0 + cnts (x1.take i)) + 8) : Nat) : Int), (mtx ((k0 + cnts (x1.take i)) + 9)), (mtx ((k0 + cnts (x1.take i)) + 10)), (mtx ((k0 + cnts (x1.take i)) + 11)), ((((k0 + cnts (x1.take i)) + 12) : Nat) : Int), (Mk.mkd ((k0 + cnts (x1.take i)) + 13) b68)), (((((k0 + cnts (x1.take i)) + 13) + Mk.cnt b68) : Nat) : Int), b8, b9, b10, b11) : T_EMsg)), y1⟩ : TL T_EMsg)) (show (((half k0 i x1).set i (((((k0 + cnts (x1.take i)) : Nat) : Int), ((((k0 + cnts (x1.take i)) + 1) : Nat) : Int), ((((k0 + cnts (x1.take i)) + 2) : Nat) : Int), (((((k0 + cnts (x1.take i)) + 3) : Nat) : Int), ((((k0 + cnts (x1.take i)) + 4) : Nat) : Int)), ((((k0 + cnts (x1.take i)) + 5) : Nat) : Int), (((((k0 + cnts (x1.take i)) + 6) : Nat) : Int), ((((k0 + cnts (x1.take i)) + 7) : Nat) : Int), ((((k0 + cnts (x1.take i)) + 8) : Nat) : Int), (mtx ((k0 + cnts (x1.take i)) + 9)), (mtx ((k0 + cnts (x1.take i)) + 10)), (mtx ((k0 + cnts (x1.take i)) + 11)), ((((k0 + cnts (x1.take i)) + 12) : Nat) : Int), (Mk.mkd ((k0 + cnts (x1.take i)) + 13) b68)), (((((k0 + cnts (x1.take i)) + 13) + Mk.cnt b68) : Nat) : Int), b8, b9, b10, b11) : T_EMsg)) : List T_EMsg)[i]? = some (((((k0 + cnts (x1.take i)) : Nat) : Int), ((((k0 + cnts (x1.take i)) + 1) : Nat) : Int), ((((k0 + cnts (x1.take i)) + 2) : Nat) : Int), (((((k0 + cnts (x1.take i)) + 3) : Nat) : Int), ((((k0 + cnts (x1.take i)) + 4) : Nat) : Int)), ((((k0 + cnts (x1.take i)) + 5) : Nat) : Int), (((((k0 + cnts (x1.take i)) + 6) : Nat) : Int), ((((k0 + cnts (x1.take i)) + 7) : Nat) : Int), ((((k0 + cnts (x1.take i)) + 8) : Nat) : Int), (mtx ((k0 + cnts (x1.take i)) + 9)), (mtx ((k0 + cnts (x1.take i)) + 10)), (mtx ((k0 + cnts (x1.take i)) + 11)), ((((k0 + cnts (x1.take i)) + 12) : Nat) : Int), (Mk.mkd ((k0 + cnts (x1.take i)) + 13) b68)), (((((k0 + cnts (x1.take i)) + 13) + Mk.cnt b68) : Nat) : Int), b8, b9, b10, b11) : T_EMsg) from set_get (half_get (k := k0) hu)) (by simp only [cells_pair, cells_mkTL]) h) ?_
      rw [List.set_set]
      refine s7 ?_
      refine L_indexAddr rfl rfl rfl el29.h rfl (by omega) ?_
      refine s1 ?_
      refine L_storeElF (fo := 16) (x' := (((((k0 + cnts (x1.take i)) : Nat) : Int), ((((k0 + cnts (x1.take i)) + 1) : Nat) : Int), ((((k0 + cnts (x1.take i)) + 2) : Nat) : Int), (((((k0 + cnts (x1.take i)) + 3) : Nat) : Int), ((((k0 + cnts (x1.take i)) + 4) : Nat) : Int)), ((((k0 + cnts (x1.take i)) + 5) : Nat) : Int), (((((k0 + cnts (x1.take i)) + 6) : Nat) : Int), ((((k0 + cnts (x1.take i)) + 7) : Nat) : Int), ((((k0 + cnts (x1.take i)) + 8) : Nat) : Int), (mtx ((k0 + cnts (x1.take i)) + 9)), (mtx ((k0 + cnts (x1.take i)) + 10)), (mtx ((k0 + cnts (x1.take i)) + 11)), ((((k0 + cnts (x1.take i)) + 12) : Nat) : Int), (Mk.mkd ((k0 + cnts (x1.take i)) + 13) b68)), (((((k0 + cnts (x1.take i)) + 13) + Mk.cnt b68) : Nat) : Int), (Mk.mkd ((((k0 + cnts (x1.take i)) + 13) + Mk.cnt b68) + 1) b8), (((((((k0 + cnts (x1.take i)) + 13) + Mk.cnt b68) + 1) + Mk.cnt b8) : Nat) : Int), b10, b11) : T_EMsg)) rfl rfl pk rfl (show (((half k0 i x1).set i (((((k0 + cnts (x1.take i)) : Nat) : Int), ((((k0 + cnts (x1.take i)) + 1) : Nat) : Int), ((((k0 + cnts (x1.take i)) + 2) : Nat) : Int), (((((k0 + cnts (x1.take i)) + 3) : Nat) : Int), ((((k0 + cnts (x1.take i)) + 4) : Nat) : Int)), ((((k0 + cnts (x1.take i)) + 5) : Nat) : Int), (((((k0 + cnts (x1.take i)) + 6) : Nat) : Int), ((((k0 + cnts (x1.take i)) + 7) : Nat) : Int), ((((k0 + cnts (x1.take i)) + 8) : Nat) : Int), (mtx ((k0 + cnts (x1.take i)) + 9)), (mtx ((k0 + cnts (x1.take i)) + 10)), (mtx ((k0 + cnts (x1.take i)) + 11)), ((((k0 + cnts (x1.take i)) + 12) : Nat) : Int), (Mk.mkd ((k0 + cnts (x1.take i)) + 13) b68)), (((((k0 + cnts (x1.take i)) + 13) + Mk.cnt b68) : Nat) : Int), (Mk.mkd ((((k0 + cnts (x1.take i)) + 13) + Mk.cnt b68) + 1) b8), b9, b10, b11) : T_EMsg)) : List T_EMsg)[i]? = some (((((k0 + cnts (x1.take i)) : Nat) : Int), ((((k0 + cnts (x1.take i)) + 1) : Nat) : Int), ((((k0 + cnts (x1.take i)) + 2) : Nat) : Int), (((((k0 + cnts (x1.take i)) + 3) : Nat) : Int), ((((k0 + cnts (x1.take i)) + 4) : Nat) : Int)), ((((k0 + cnts (x1.take i)) + 5) : Nat) : Int), (((((k0 + cnts (x1.take i)) + 6) : Nat) : Int), ((((k0 + cnts (x1.take i)) + 7) : Nat) : Int), ((((k0 + cnts (x1.take i)) + 8) : Nat) : Int), (mtx ((k0 + cnts (x1.take i)) + 9)), (mtx ((k0 + cnts (x1.take i)) + 10)), (mtx ((k0 + cnts (x1.take i)) + 11)), ((((k0 + cnts (x1.take i)) + 12) : Nat) : Int), (Mk.mkd ((k0 + cnts (x1.take i)) + 13) b68)), (((((k0 + cnts (x1.take i)) + 13) + Mk.cnt b68) : Nat) : Int), (Mk.mkd ((((k0 + cnts (x1.take i)) + 13) + Mk.cnt b68) + 1) b8), b9, b10, b11) : T_EMsg) from set_get (half_get (k := k0) hu)) rfl rfl (by decide) rfl (fun w h => by exact ⟨h.1, h.2.1, h.2.2.1, ⟨h.2.2.2.1.1, h.2.2.2.1.2⟩, h.2.2.2.2.1, ⟨h.2.2.2.2.2.1.1, h.2.2.2.2.2.1.2.1, h.2.2.2.2.2.1.2.2.1, h.2.2.2.2.2.1.2.2.2.1, h.2.2.2.2.2.1.2.2.2.2.1, h.2.2.2.2.2.1.2.2.2.2.2.1, h.2.2.2.2.2.1.2.2.2.2.2.2.1, h.2.2.2.2.2.1.2.2.2.2.2.2.2⟩, h.2.2.2.2.2.2.1, h.2.2.2.2.2.2.2.1, (by exact trivial), h.2.2.2.2.2.2.2.2.2.1, h.2.2.2.2.2.2.2.2.2.2⟩) one3.h ?_
      rw [List.set_set]
      refine s4 ?_
      refine L_binV rfl rfl rfl (bv_addR (by unfold inR; omega)) ?_
      refine s2 ?_
      rw [show (((((((k0 + cnts (x1.take i)) + 13) + Mk.cnt b68) + 1) + Mk.cnt b8) : Nat) : Int) + 1 = ((((((((k0 + cnts (x1.take i)) + 13) + Mk.cnt b68) + 1) + Mk.cnt b8) + 1) : Nat) : Int) from rfl]
      refine s5 ?_
      refine L_indexAddr rfl rfl rfl el29.h rfl (by omega) ?_
      refine s1 ?_
      refine L_storeElF (fo := 17) (x' := (((((k0 + cnts (x1.take i)) : Nat) : Int), ((((k0 + cnts (x1.take i)) + 1) : Nat) : Int), ((((k0 + cnts (x1.take i)) + 2) : Nat) : Int), (((((k0 + cnts (x1.take i)) + 3) : Nat) : Int), ((((k0 + cnts (x1.take i)) + 4) : Nat) : Int)), ((((k0 + cnts (x1.take i)) + 5) : Nat) : Int), (((((k0 + cnts (x1.take i)) + 6) : Nat) : Int), ((((k0 + cnts (x1.take i)) + 7) : Nat) : Int), ((((k0 + cnts (x1.take i)) + 8) : Nat) : Int), (mtx ((k0 + cnts (x1.take i)) + 9)), (mtx ((k0 + cnts (x1.take i)) + 10)), (mtx ((k0 + cnts (x1.take i)) + 11)), ((((k0 + cnts (x1.take i)) + 12) : Nat) : Int), (Mk.mkd ((k0 + cnts (x1.take i)) + 13) b68)), (((((k0 + cnts (x1.take i)) + 13) + Mk.cnt b68) : Nat) : Int), (Mk.mkd ((((k0 + cnts (x1.take i)) + 13) + Mk.cnt b68) + 1) b8), (((((((k0 + cnts (x1.take i)) + 13) + Mk.cnt b68) + 1) + Mk.cnt b8) : Nat) : Int), ((((((((k0 + cnts (x1.take i)) + 13) + Mk.cnt b68) + 1) + Mk.cnt b8) + 1) : Nat) : Int), b11) : T_EMsg)) rfl rfl pk rfl (show (((half k0 i x1).set i (((((k0 + cnts (x1.take i)) : Nat) : Int), ((((k0 + cnts (x1.take i)) + 1) : Nat) : Int), ((((k0 + cnts (x1.take i)) + 2) : Nat) : Int), (((((k0 + cnts (x1.take i)) + 3) : Nat) : Int), ((((k0 + cnts (x1.take i)) + 4) : Nat) : Int)), ((((k0 + cnts (x1.take i)) + 5) : Nat) : Int), (((((k0 + cnts (x1.take i)) + 6) : Nat) : Int), ((((k0 + cnts (x1.take i)) + 7) : Nat) : Int), ((((k0 + cnts (x1.take i)) + 8) : Nat) : Int), (mtx ((k0 + cnts (x1.take i)) + 9)), (mtx ((k0 + cnts (x1.take i)) + 10)), (mtx ((k0 + cnts (x1.take i)) + 11)), ((((k0 + cnts (x1.take i)) + 12) : Nat) : Int), (Mk.mkd ((k0 + cnts (x1.take i)) + 13) b68)), (((((k0 + cnts (x1.take i)) + 13) + Mk.cnt b68) : Nat) : Int), (Mk.mkd ((((k0 + cnts (x1.take i)) + 13) + Mk.cnt b68) + 1) b8), (((((((k0 + cnts (x1.take i)) + 13) + Mk.cnt b68) + 1) + Mk.cnt b8) : Nat) : Int), b10, b11) : T_EMsg)) : List T_EMsg)[i]? = some (((((k0 + cnts (x1.take i)) : Nat) : Int), ((((k0 + cnts (x1.take i)) + 1) : Nat) : Int), ((((k0 + cnts (x1.take i)) + 2) : Nat) : Int), (((((k0 + cnts (x1.take i)) + 3) : Nat) : Int), ((((k0 + cnts (x1.take i)) + 4) : Nat) : Int)), ((((k0 + cnts (x1.take i)) + 5) : Nat) : Int), (((((k0 + cnts (x1.take i)) + 6) : Nat) : Int), ((((k0 + cnts (x1.take i)) + 7) : Nat) : Int), ((((k0 + cnts (x1.take i)) + 8) : Nat) : Int), (mtx ((k0 + cnts (x1.take i)) + 9)), (mtx ((k0 + cnts (x1.take i)) + 10)), (mtx ((k0 + cnts (x1.take i)) + 11)), ((((k0 + cnts (x1.take i)) + 12) : Nat) : Int), (Mk.mkd ((k0 + cnts (x1.take i)) + 13) b68)), (((((k0 + cnts (x1.take i)) + 13) + Mk.cnt b68) : Nat) : Int), (Mk.mkd ((((k0 + cnts (x1.take i)) + 13) + Mk.cnt b68) + 1) b8), (((((((k0 + cnts (x1.take i)) + 13) + Mk.cnt b68) + 1) + Mk.cnt b8) : Nat) : Int), b10, b11) : T_EMsg) from set_get (half_get (k := k0) hu)) rfl rfl (by decide) rfl (fun w h => by exact ⟨h.1, h.2.1, h.2.2.1, ⟨h.2.2.2.1.1, h.2.2.2.1.2⟩, h.2.2.2.2.1, ⟨h.2.2.2.2.2.1.1, h.2.2.2.2.2.1.2.1, h.2.2.2.2.2.1.2.2.1, h.2.2.2.2.2.1.2.2.2.1, h.2.2.2.2.2.1.2.2.2.2.1, h.2.2.2.2.2.1.2.2.2.2.2.1, h.2.2.2.2.2.1.2.2.2.2.2.2.1, h.2.2.2.2.2.1.2.2.2.2.2.2.2⟩, h.2.2.2.2.2.2.1, h.2.2.2.2.2.2.2.1, h.2.2.2.2.2.2.2.2.1, (by exact trivial), h.2.2.2.2.2.2.2.2.2.2⟩) one3.h ?_
      rw [List.set_set]
      refine s4 ?_
      refine L_binV rfl rfl rfl (bv_addR (by unfold inR; omega)) ?_
      refine s2 ?_
      rw [show ((((((((k0 + cnts (x1.take i)) + 13) + Mk.cnt b68) + 1) + Mk.cnt b8) + 1) : Nat) : Int) + 1 = ((((((((k0 + cnts (x1.take i)) + 13) + Mk.cnt b68) + 1) + Mk.cnt b8) + 2) : Nat) : Int) from rfl]
      refine s5 ?_
      refine L_binV rfl rfl rfl (bv_rem (by omega)) ?_
      refine s1 ?_
      refine L_indexAddr rfl rfl rfl el29.h rfl (by omega) ?_
      refine s1 ?_
      refine L_storeElF (fo := 18) (x' := (((((k0 + cnts (x1.take i)) : Nat) : Int), ((((k0 + cnts (x1.take i)) + 1) : Nat) : Int), ((((k0 + cnts (x1.take i)) + 2) : Nat) : Int), (((((k0 + cnts (x1.take i)) + 3) : Nat) : Int), ((((k0 + cnts (x1.take i)) + 4) : Nat) : Int)), ((((k0 + cnts (x1.take i)) + 5) : Nat) : Int), (((((k0 + cnts (x1.take i)) + 6) : Nat) : Int), ((((k0 + cnts (x1.take i)) + 7) : Nat) : Int), ((((k0 + cnts (x1.take i)) + 8) : Nat) : Int), (mtx ((k0 + cnts (x1.take i)) + 9)), (mtx ((k0 + cnts (x1.take i)) + 10)), (mtx ((k0 + cnts (x1.take i)) + 11)), ((((k0 + cnts (x1.take i)) + 12) : Nat) : Int), (Mk.mkd ((k0 + cnts (x1.take i)) + 13) b68)), (((((k0 + cnts (x1.take i)) + 13) + Mk.cnt b68) : Nat) : Int), (Mk.mkd ((((k0 + cnts (x1.take i)) + 13) + Mk.cnt b68) + 1) b8), (((((((k0 + cnts (x1.take i)) + 13) + Mk.cnt b68) + 1) + Mk.cnt b8) : Nat) : Int), ((((((((k0 + cnts (x1.take i)) + 13) + Mk.cnt b68) + 1) + Mk.cnt b8) + 1) : Nat) : Int), (decide (((((((((k0 + cnts (x1.take i)) + 13) + Mk.cnt b68) + 1) + Mk.cnt b8) + 2) : Nat) : Int).tmod 3 = 0))) : T_EMsg)) rfl rfl pk rfl (show (((half k0 i x1).set i (((((k0 + cnts (x1.take i)) : Nat) : Int), ((((k0 + cnts (x1.take i)) + 1) : Nat) : Int), ((((k0 + cnts (x1.take i)) + 2) : Nat) : Int), (((((k0 + cnts (x1.take i)) + 3) : Nat) : Int), ((((k0 + cnts (x1.take i)) + 4) : Nat) : Int)), ((((k0 + cnts (x1.take i)) + 5) : Nat) : Int), (((((k0 + cnts (x1.take i)) + 6) : Nat) : Int), ((((k0 + cnts (x1.take i)) + 7) : Nat) : Int), ((((k0 + cnts (x1.take i)) + 8) : Nat) : Int), (mtx ((k0 + cnts (x1.take i)) + 9)), (mtx ((k0 + cnts (x1.take i)) + 10)), (mtx ((k0 + cnts (x1.take i)) + 11)), ((((k0 + cnts (x1.take i)) + 12) : Nat) : Int), (Mk.mkd ((k0 + cnts (x1.take i)) + 13) b68)), (((((k0 + cnts (x1.take i)) + 13) + Mk.cnt b68) : Nat) : Int), (Mk.mkd ((((k0 + cnts (x1.take i)) + 13) + Mk.cnt b68) + 1) b8), (((((((k0 + cnts (x1.take i)) + 13) + Mk.cnt b68) + 1) + Mk.cnt b8) : Nat) : Int), ((((((((k0 + cnts (x1.take i)) + 13) + Mk.cnt b68) + 1) + Mk.cnt b8) + 1) : Nat) : Int), b11) : T_EMsg)) : List T_EMsg)[i]? = some (((((k0 + cnts (x1.take i)) : Nat) : Int), ((((k0 + cnts (x1.take i)) + 1) : Nat) : Int), ((((k0 + cnts (x1.take i)) + 2) : Nat) : Int), (((((k0 + cnts (x1.take i)) + 3) : Nat) : Int), ((((k0 + cnts (x1.take i)) + 4) : Nat) : Int)), ((((k0 + cnts (x1.take i)) + 5) : Nat) : Int), (((((k0 + cnts (x1.take i)) + 6) : Nat) : Int), ((((k0 + cnts (x1.take i)) + 7) : Nat) : Int), ((((k0 + cnts (x1.take i)) + 8) : Nat) : Int), (mtx ((k0 + cnts (x1.take i)) + 9)), (mtx ((k0 + cnts (x1.take i)) + 10)), (mtx ((k0 + cnts (x1.take i)) + 11)), ((((k0 + cnts (x1.take i)) + 12) : Nat) : Int), (Mk.mkd ((k0 + cnts (x1.take i)) + 13) b68)), (((((k0 + cnts (x1.take i)) + 13) + Mk.cnt b68) : Nat) : Int), (Mk.mkd ((((k0 + cnts (x1.take i)) + 13) + Mk.cnt b68) + 1) b8), (((((((k0 + cnts (x1.take i)) + 13) + Mk.cnt b68) + 1) + Mk.cnt b8) : Nat) : Int), ((((((((k0 + cnts (x1.take i)) + 13) + Mk.cnt b68) + 1) + Mk.cnt b8) + 1) : Nat) : Int), b11) : T_EMsg) from set_get (half_get (k := k0) hu)) rfl rfl (by decide) rfl (fun w h => by exact ⟨h.1, h.2.1, h.2.2.1, ⟨h.2.2.2.1.1, h.2.2.2.1.2⟩, h.2.2.2.2.1, ⟨h.2.2.2.2.2.1.1, h.2.2.2.2.2.1.2.1, h.2.2.2.2.2.1.2.2.1, h.2.2.2.2.2.1.2.2.2.1, h.2.2.2.2.2.1.2.2.2.2.1, h.2.2.2.2.2.1.2.2.2.2.2.1, h.2.2.2.2.2.1.2.2.2.2.2.2.1, h.2.2.2.2.2.1.2.2.2.2.2.2.2⟩, h.2.2.2.2.2.2.1, h.2.2.2.2.2.2.2.1, h.2.2.2.2.2.2.2.2.1, h.2.2.2.2.2.2.2.2.2.1, (by exact trivial)⟩) one4.h ?_
      rw [List.set_set]
      refine s3 ?_
      refine L_binV rfl rfl rfl (bv_addR (by unfold inR; omega)) ?_
      refine s2 ?_
      rw [show ((((((((k0 + cnts (x1.take i)) + 13) + Mk.cnt b68) + 1) + Mk.cnt b8) + 2) : Nat) : Int) + 1 = ((((((((k0 + cnts (x1.take i)) + 13) + Mk.cnt b68) + 1) + Mk.cnt b8) + 3) : Nat) : Int) from rfl]
      have hfin : ((half k0 i x1).set i (((((k0 + cnts (x1.take i)) : Nat) : Int), ((((k0 + cnts (x1.take i)) + 1) : Nat) : Int), ((((k0 + cnts (x1.take i)) + 2) : Nat) : Int), (((((k0 + cnts (x1.take i)) + 3) : Nat) : Int), ((((k0 + cnts (x1.take i)) + 4) : Nat) : Int)), ((((k0 + cnts (x1.take i)) + 5) : Nat) : Int), (((((k0 + cnts (x1.take i)) + 6) : Nat) : Int), ((((k0 + cnts (x1.take i)) + 7) : Nat) : Int), ((((k0 + cnts (x1.take i)) + 8) : Nat) : Int), (mtx ((k0 + cnts (x1.take i)) + 9)), (mtx ((k0 + cnts (x1.take i)) + 10)), (mtx ((k0 + cnts (x1.take i)) + 11)), ((((k0 + cnts (x1.take i)) + 12) : Nat) : Int), (Mk.mkd ((k0 + cnts (x1.take i)) + 13) b68)), (((((k0 + cnts (x1.take i)) + 13) + Mk.cnt b68) : Nat) : Int), (Mk.mkd ((((k0 + cnts (x1.take i)) + 13) + Mk.cnt b68) + 1) b8), (((((((k0 + cnts (x1.take i)) + 13) + Mk.cnt b68) + 1) + Mk.cnt b8) : Nat) : Int), ((((((((k0 + cnts (x1.take i)) + 13) + Mk.cnt b68) + 1) + Mk.cnt b8) + 1) : Nat) : Int), (decide (((((((((k0 + cnts (x1.take i)) + 13) + Mk.cnt b68) + 1) + Mk.cnt b8) + 2) : Nat) : Int).tmod 3 = 0))) : T_EMsg)) = half k0 (i + 1) x1 := by
        have h9 := half_set (k := k0) hu
        try simp only [mk_pair, mk_int, mk_str, mk_bool, cnt_pair, cnt_int, cnt_str, cnt_bool, ← Nat.add_assoc] at h9
        try simp only [List.set_set]
        exact h9
      refine W_conv (M' := treeH (⟨some ⟨g, 0, none⟩, c1, e1, (half k0 (i + 1) x1), y1⟩ : TL T_EMsg) :: _) (fun w h => by rw [← hfin]; exact h) ?_
      have hE : ((((((k0 + cnts (x1.take i)) + 13) + Mk.cnt b68) + 1) + Mk.cnt b8) + 3) = k0 + cnts (x1.take (i + 1)) := by rw [hs]; (try simp only [cnt_pair, cnt_int, cnt_str, cnt_bool]); omega
      rw [hE]
      refine s2 ?_
      refine L_binV rfl rfl rfl (bv_addR (by unfold inR; omega)) ?_
      refine s2 ?_
      refine ⟨i + 1, sb, ms, ?_, ?_⟩
      · show i + 1 ≤ x1.length
        omega
      · show x1.length - (i + 1) < x1.length - i
        omega
    · refine W_exit ?_
      refine s6 ?_
      -- return 1 (R40)
      have hk2 : x1.length ≤ i := by simpa using hc2
      rw [half_all k0 hk2]
      refine res1 rfl (ResOK.tmp rfl) ⟨?_, rfl⟩ ms
      have hk2 : x1.length ≤ i := by simpa using hc2
      rw [List.take_of_length_le hk2]; rfl
end Go.Proofs.SL
namespace Go.Proofs.SL
open Go
set_option maxHeartbeats 2000000
instance fn28 : FnF Tryz.prog 28 := ⟨⟨_, Tryz.func28, by kernel_rfl, rfl⟩⟩
instance fn29 : FnF Tryz.prog 29 := ⟨⟨_, Tryz.func29, by kernel_rfl, rfl⟩⟩
instance fn24 : FnF Tryz.prog 24 := ⟨⟨_, Tryz.func24, by kernel_rfl, rfl⟩⟩
instance fn25 : FnF Tryz.prog 25 := ⟨⟨_, Tryz.func25, by kernel_rfl, rfl⟩⟩
instance fld25_0 : FldF Tryz.prog 25 0 0 := ⟨by kernel_rfl⟩
instance one22 : OneF Tryz.prog 22 := ⟨by kernel_rfl⟩
instance fn16 : FnF Tryz.prog 16 := ⟨⟨_, Tryz.func16, by kernel_rfl, rfl⟩⟩
instance fld25_1 : FldF Tryz.prog 25 1 1 := ⟨by kernel_rfl⟩
instance one23 : OneF Tryz.prog 23 := ⟨by kernel_rfl⟩
instance fn17 : FnF Tryz.prog 17 := ⟨⟨_, Tryz.func17, by kernel_rfl, rfl⟩⟩
instance zero31 : ZerF Tryz.prog 31 [.slice none 0 0, .slice none 0 0] := ⟨by kernel_rfl⟩
instance fn20 : FnF Tryz.prog 20 := ⟨⟨_, Tryz.func20, by kernel_rfl, rfl⟩⟩
instance fn21 : FnF Tryz.prog 21 := ⟨⟨_, Tryz.func21, by kernel_rfl, rfl⟩⟩
theorem eqENet_spec (w : World) (t1 t2 : T_ENet) (h1 : GT.rd w [] t1) (h2 : GT.rd w [] t2) : Spec Tryz.prog 9 [.agg (GT.cells t1).toArray, .agg (GT.cells t2).toArray].toArray w [] (IsV (.bool (eqB (GT.dat t1) (GT.dat t2)))) := by
  obtain ⟨a1, a2⟩ := t1
  obtain ⟨b1, b2⟩ := t2
  change Spec _ _ [Value.agg #[a1.hdr, a2.hdr], Value.agg #[b1.hdr, b2.hdr]].toArray w [] _
  refine Spec.intro Tryz.func9 rfl Tryz.ntmps9 rfl ?_
  refine s2 ?_
  refine bx fun bk2 => ?_
  refine bx fun bk3 => ?_
  refine s6 ?_
  refine L_load rfl rfl (by first | exact RdC.blk mm) one28.h rfl ?_
  refine s1 ?_
  refine L_load rfl rfl (by first | exact RdC.blk mm) one28.h rfl ?_
  refine L_callX rfl fn24.h rfl (by exact fun w hw => eqENodeS_spec w _ _ (rd_carry (h1.1) hw) (rd_carry (h2.1) hw)) ?_
  refine s2 ?_
  refine kp [2, 3, 10] ?_
  refine W_cond rfl (fun hc1 => ?_) (fun hc1 => ?_)
  · refine s5 ?_
    -- return 1 (R2)
    refine res1 rfl (ResOK.tmp rfl) ⟨?_, rfl⟩ ms
    clear h1 h2
    first
      | (refine congrArg Value.bool (Eq.symm (eqB_false.2 fun e => ?_)); try simp only [dat_pair, dat_int, dat_bool, dat_str, Prod.mk.injEq] at e; simp_all; done)
      | (refine congrArg Value.bool (Eq.symm (eqB_true.2 ?_)); try simp only [dat_pair, dat_int, dat_bool, dat_str, Prod.mk.injEq]; simp_all; done)
  · refine s5 ?_
    refine L_load rfl rfl (by first | exact RdC.blk mm) one29.h rfl ?_
    refine s1 ?_
    refine L_load rfl rfl (by first | exact RdC.blk mm) one29.h rfl ?_
    refine L_callX rfl fn25.h rfl (by exact fun w hw => eqEMsgS_spec w _ _ (rd_carry (h1.2) hw) (rd_carry (h2.2) hw)) ?_
    refine s2 ?_
    refine kp [16] ?_
    refine W_cond rfl (fun hc3 => ?_) (fun hc3 => ?_)
    · refine s5 ?_
      -- return 2 (R4)
      refine res1 rfl (ResOK.tmp rfl) ⟨?_, rfl⟩ ms
      clear h1 h2
      first
        | (refine congrArg Value.bool (Eq.symm (eqB_false.2 fun e => ?_)); try simp only [dat_pair, dat_int, dat_bool, dat_str, Prod.mk.injEq] at e; simp_all; done)
        | (refine congrArg Value.bool (Eq.symm (eqB_true.2 ?_)); try simp only [dat_pair, dat_int, dat_bool, dat_str, Prod.mk.injEq]; simp_all; done)
    · refine s6 ?_
      -- return 3 (R5)
      refine res1 rfl (ResOK.tmp rfl) ⟨?_, rfl⟩ ms
      clear h1 h2
      first
        | (refine congrArg Value.bool (Eq.symm (eqB_false.2 fun e => ?_)); try simp only [dat_pair, dat_int, dat_bool, dat_str, Prod.mk.injEq] at e; simp_all; done)
        | (refine congrArg Value.bool (Eq.symm (eqB_true.2 ?_)); try simp only [dat_pair, dat_int, dat_bool, dat_str, Prod.mk.injEq]; simp_all; done)
theorem szENet_spec (w : World) (t1 : T_ENet) (left : Int) (hl : 0 ≤ left) (hm : left ≤ 1048576) (h1 : GT.rd w [] t1) (ho : Ok.ok (GT.dat t1)) : Spec Tryz.prog 5 [.agg (GT.cells t1).toArray, .int .i64 left].toArray w [] (IsV (.int .i64 (if (Bk.bulk t1 : Int) ≤ left then left - (Bk.bulk t1 : Int) else -1))) := by
  obtain ⟨a1, a2⟩ := t1
  change Spec _ _ [Value.agg #[a1.hdr, a2.hdr], .int .i64 left].toArray w [] _
  refine Spec.intro Tryz.func5 rfl Tryz.ntmps5 rfl ?_
  refine s2 ?_
  refine bx fun bk2 => ?_
  refine s5 ?_
  refine L_load rfl rfl (by first | exact RdC.blk mm) one22.h rfl ?_
  refine s1 ?_
  refine L_callX rfl fn16.h rfl (by exact fun w hw => szENodeS_spec w _ (left) (by omega) (by omega) (rd_carry (h1.1) hw) ho.1) ?_
  refine s8 ?_
  refine kp [1, 2, 10] ?_
  refine W_cond rfl (fun hc2 => ?_) (fun hc2 => ?_)
  · have hb0 : ¬ ((Bk.bulk a1 : Int) ≤ left) := by
      intro hn
      rw [if_pos hn] at hc2; simp at hc2; omega
    refine s5 ?_
    -- return 1 (R3)
    refine res1 rfl (ResOK.tmp rfl) ⟨?_, rfl⟩ ms
    try simp only [bulk_pair, bulk_int, bulk_bool, bulk_str, Int.natCast_add, Int.natCast_zero] at *
    all_goals first
      | rfl
      | (rw [if_pos (by omega)] <;> (congr 1 <;> omega))
      | (rw [if_neg (by omega)])
  · have hb0 : (Bk.bulk a1 : Int) ≤ left := by
      rcases Int.decLt (left) (Bk.bulk a1 : Int) with hn | hn
      · omega
      · rw [if_neg (by omega)] at hc2; simp at hc2
    rw [if_pos hb0]
    refine s4 ?_
    refine L_load rfl rfl (by first | exact RdC.blk mm) one23.h rfl ?_
    refine s1 ?_
    refine L_callX rfl fn17.h rfl (by exact fun w hw => szEMsgS_spec w _ (left - (Bk.bulk a1 : Int)) (by omega) (by omega) (rd_carry (h1.2) hw) ho.2) ?_
    refine s8 ?_
    refine kp [1, 16] ?_
    refine W_cond rfl (fun hc5 => ?_) (fun hc5 => ?_)
    · have hb1 : ¬ ((Bk.bulk a2 : Int) ≤ left - (Bk.bulk a1 : Int)) := by
        intro hn
        rw [if_pos hn] at hc5; simp at hc5; omega
      refine s5 ?_
      -- return 2 (R6)
      refine res1 rfl (ResOK.tmp rfl) ⟨?_, rfl⟩ ms
      try simp only [bulk_pair, bulk_int, bulk_bool, bulk_str, Int.natCast_add, Int.natCast_zero] at *
      all_goals first
        | rfl
        | (rw [if_pos (by omega)] <;> (congr 1 <;> omega))
        | (rw [if_neg (by omega)])
    · have hb1 : (Bk.bulk a2 : Int) ≤ left - (Bk.bulk a1 : Int) := by
        rcases Int.decLt (left - (Bk.bulk a1 : Int)) (Bk.bulk a2 : Int) with hn | hn
        · omega
        · rw [if_neg (by omega)] at hc5; simp at hc5
      rw [if_pos hb1]
      refine s7 ?_
      -- return 3 (R7)
      refine res1 rfl (ResOK.tmp rfl) ⟨?_, rfl⟩ ms
      try simp only [bulk_pair, bulk_int, bulk_bool, bulk_str, Int.natCast_add, Int.natCast_zero] at *
      all_goals first
        | rfl
        | (rw [if_pos (by omega)] <;> (congr 1 <;> omega))
        | (rw [if_neg (by omega)])
theorem toENet_spec (w : World) (t1 : T_ENet) (h1 : GT.rd w [] t1) (hb : Bk.bulk t1 ≤ 1048576) : Spec Tryz.prog 7 [.agg (GT.cells t1).toArray].toArray w [] (fun v M => ∃ t2 : T_ENet, v = .agg (GT.cells t2).toArray ∧ GT.dat t2 = GT.dat t1 ∧ M = [treeH t2]) := by
  obtain ⟨a1, a2⟩ := t1
  have hbk_0 : Bk.bulk a1 ≤ 1048576 := by (try simp only [bulk_pair, bulk_int, bulk_bool, bulk_str] at hb ⊢); omega
  have hbk_1 : Bk.bulk a2 ≤ 1048576 := by (try simp only [bulk_pair, bulk_int, bulk_bool, bulk_str] at hb ⊢); omega
  change Spec _ _ [Value.agg #[a1.hdr, a2.hdr]].toArray w [] _
  refine Spec.intro Tryz.func7 rfl Tryz.ntmps7 rfl ?_
  refine s2 ?_
  refine bx fun bk1 => ?_
  refine al fun bk2 => ?_
  refine s3 ?_
  refine al fun bk3 => ?_
  refine s4 ?_
  refine L_load rfl rfl (by first | exact RdC.blk mm) one22.h rfl ?_
  refine L_callR rfl fn20.h rfl (by exact fun w hw => toENodeS_spec w _ (rd_carry (h1.1) hw) hbk_0) ?_
  rintro v M1 ⟨n1t, hv, hd0, rfl⟩
  subst hv
  simp only [List.cons_append, List.nil_append]
  refine s6 ?_
  refine L_load rfl rfl (by first | exact RdC.blk mm) one23.h rfl ?_
  refine L_callR rfl fn21.h rfl (by exact fun w hw => toEMsgS_spec w _ (rd_carry (h1.2) hw) hbk_1) ?_
  rintro v M1 ⟨n2t, hv, hd1, rfl⟩
  subst hv
  simp only [List.cons_append, List.nil_append]
  refine s5 ?_
  refine L_loadW rfl rfl (by first | exact RdC.blk mm) (by exact agg31.h) ?_
  refine L_storeW rfl rfl pk (by exact agg31.h) (by rfl) (by first | (simp [Value.oneCell', TL.hdr]; done) | (simp [Value.oneCell', TL.hdr, Value.cells]; done) | exact fun v hv => GT.one _ v hv) ?_
  refine s1 ?_
  refine W_conv (M' := treeH n2t :: _) (fun w h => frontPick pk h) ?_
  refine W_conv (M' := treeH (n1t, n2t) :: _) (fun w h => pairPick pk h) ?_
  refine s1 ?_
  -- return 1 (R4)
  refine res1 rfl (ResOK.cell rfl mm (by exact agg31.h)) ⟨(n1t, n2t), rfl, by simp only [dat_pair, hd0, hd1], rfl⟩ ms
theorem markENet_spec (w : World) (t1 : T_ENet) (k0 : Nat) (hk0 : 0 < k0) (hb : k0 + Mv.cnt t1 < 9223372036854775807) : Spec Tryz.prog 13 [.agg (GT.cells t1).toArray, .int .i64 (k0 : Int)].toArray w [treeH t1] (fun v M => v = .int .i64 ((k0 + Mv.cnt t1 : Nat) : Int) ∧ M = [treeH (Mv.mkd k0 t1)]) := by
  obtain ⟨a1, a2⟩ := t1
  simp only [mv_cnt_pair, mv_cnt_int, mv_cnt_bool, mv_cnt_str, mv_cnt_TL, mv_pair, mv_int, mv_bool, mv_str, mv_TL, Nat.zero_add, Nat.add_zero, ← Nat.add_assoc] at hb ⊢
  change Spec _ _ [Value.agg #[a1.hdr, a2.hdr], .int .i64 (k0 : Int)].toArray w _ _
  refine Spec.intro Tryz.func13 rfl Tryz.ntmps13 rfl ?_
  refine s2 ?_
  refine bx fun bk2 => ?_
  refine s5 ?_
  refine L_load rfl rfl (by first | exact RdC.blk mm) one28.h rfl ?_
  refine s1 ?_
  refine L_conv (fun w h => show Holds _ _ _ w from (tree_pair (frontPick (x := treeH ((a1, a2) : T_ENet)) pk h))) ?_
  refine L_call1 rfl fn28.h rfl (Pick.here _) (by exact fun w hw => markENodeS_spec w a1 (k0) (by omega) (by omega)) ?_
  rintro v M1 ⟨hv, rfl⟩
  subst hv
  simp only [List.cons_append, List.nil_append]
  refine L_conv (M' := treeH (((Mk.mkd k0 a1), a2) : T_ENet) :: _) (fun w h => (pairFront (Pick.here _) h)) ?_
  refine s5 ?_
  refine L_load rfl rfl (by first | exact RdC.blk mm) one29.h rfl ?_
  refine s1 ?_
  refine L_conv (fun w h => show Holds _ _ _ w from (frontPick (Pick.there _ (Pick.here _)) (tree_pair (frontPick (x := treeH (((Mk.mkd k0 a1), a2) : T_ENet)) pk h)))) ?_
  refine L_call1 rfl fn29.h rfl (Pick.here _) (by exact fun w hw => markEMsgS_spec w a2 (k0 + Mk.cnt a1) (by omega) (by omega)) ?_
  rintro v M1 ⟨hv, rfl⟩
  subst hv
  simp only [List.cons_append, List.nil_append]
  refine L_conv (M' := treeH (((Mk.mkd k0 a1), (Mk.mkd (k0 + Mk.cnt a1) a2)) : T_ENet) :: _) (fun w h => (pairPick (Pick.here _) h)) ?_
  refine s8 ?_
  -- return 1 (R3)
  refine res1 rfl (ResOK.tmp rfl) ⟨rfl, rfl⟩ ms
end Go.Proofs.SL
namespace Go.Proofs.SL
open Go
instance fn13 : FnF Tryz.prog 13 := ⟨⟨_, Tryz.func13, by kernel_rfl, rfl⟩⟩
instance agg25 : AggF Tryz.prog 25 2 := ⟨by kernel_rfl⟩
instance fn5 : FnF Tryz.prog 5 := ⟨⟨_, Tryz.func5, by kernel_rfl, rfl⟩⟩
instance fn7 : FnF Tryz.prog 7 := ⟨⟨_, Tryz.func7, by kernel_rfl, rfl⟩⟩
instance fn10 : FnF Tryz.prog 10 := ⟨⟨_, Tryz.func10, by kernel_rfl, rfl⟩⟩
instance fn11 : FnF Tryz.prog 11 := ⟨⟨_, Tryz.func11, by kernel_rfl, rfl⟩⟩
instance fn9 : FnF Tryz.prog 9 := ⟨⟨_, Tryz.func9, by kernel_rfl, rfl⟩⟩
instance fn15 : FnF Tryz.prog 15 := ⟨⟨_, Tryz.func15, by kernel_rfl, rfl⟩⟩
theorem sKnown_spec (w : World) (a0 : T_ENet) (h0 : GT.rd w [] a0) (ho0 : Ok.ok (GT.dat a0)) (hs0 : Bd.bd (τ := T_ENet) (GT.dat a0) ≤ 1048576) : Spec Tryz.prog 10 [.agg (GT.cells a0).toArray].toArray w [] (fun v M => ∃ (x0 : TL Int), v = x0.hdr ∧ GT.dat x0 = (knownD (GT.dat a0)) ∧ M = [treeH x0]) := (s_Known_walk w a0 h0 _ (s_Known_eq ho0 (small_net hs0))).to fun v M ⟨x0, hv, hd, hM⟩ => by
  exact ⟨x0, hv, congrArg (fun z => z) hd, hM⟩
theorem iKnown_spec (w : World) (a0 : T_ENet) (h0 : GT.rd w [] a0) (ho0 : Ok.ok (GT.dat a0)) (hs0 : Bd.bd (τ := T_ENet) (GT.dat a0) ≤ 1048576) : Spec Tryz.prog 11 [.agg (GT.cells a0).toArray].toArray w [] (fun v M => ∃ (x0 : TL Int), v = x0.hdr ∧ GT.dat x0 = (knownD (GT.dat a0)) ∧ M = [treeH x0]) := (i_Known_walk w a0 h0 _ (i_Known_eq ho0 (small_net hs0))).to fun v M ⟨x0, hv, hd, hM⟩ => by
  exact ⟨x0, hv, congrArg (fun z => z) hd, hM⟩
theorem lawFnExactKnown (w : World) (t1 : T_ENet) (h1 : GT.rd w [] t1) (ho1 : Ok.ok (GT.dat t1))  : Spec Tryz.prog 4 [.agg (GT.cells t1).toArray].toArray w [] (IsV (.bool true)) := by
  refine Spec.intro Tryz.func4 rfl Tryz.ntmps4 rfl ?_
  refine s2 ?_
  refine bx fun bk1 => ?_
  refine s8 ?_
  refine L_loadW rfl rfl (by first | exact RdC.blk mm) (by exact agg25.h) ?_
  refine s1 ?_
  refine L_callX rfl fn5.h rfl (by exact fun w hw => szENet_spec w t1 (1048576) (by omega) (by omega) (rd_carry h1 hw) ho1) ?_
  refine s8 ?_
  refine kp [1, 15] ?_
  refine W_cond rfl (fun hc3 => ?_) (fun hc3 => ?_)
  · refine s5 ?_
    -- return 1 (R4)
    refine res1 rfl (ResOK.tmp rfl) ⟨?_, rfl⟩ ms
    rfl
  · have hb1 : (Bk.bulk t1 : Int) ≤ 1048576 := by
      rcases Int.decLt (1048576) (Bk.bulk t1 : Int) with hn | hn
      · omega
      · rw [if_neg (by omega)] at hc3; simp at hc3
    rw [if_pos hb1]
    refine s3 ?_
    refine L_loadW rfl rfl (by first | exact RdC.blk mm) (by exact agg25.h) ?_
    refine L_callR rfl fn7.h rfl (by exact fun w hw => toENet_spec w _ (rd_carry h1 hw) (by omega)) ?_
    rintro v M1 ⟨n1, hv, hn1, rfl⟩
    subst hv
    simp only [List.cons_append, List.nil_append]
    refine L_callR rfl fn10.h rfl (by exact fun w hw => sKnown_spec w n1 (rd_of_tree mm hw.sees) (by rw [hn1]; exact ho1) (by first | (rw [hn1, ← Bd.eq]; omega) | (rw [← Bd.eq]; omega))) ?_
    rintro v M1 ⟨r1_0, hv, hr1_0, rfl⟩
    subst hv
    simp only [List.cons_append, List.nil_append]
    refine s4 ?_
    refine L_loadW rfl rfl (by first | exact RdC.blk mm) (by exact agg25.h) ?_
    refine L_callR rfl fn7.h rfl (by exact fun w hw => toENet_spec w _ (rd_carry h1 hw) (by omega)) ?_
    rintro v M1 ⟨n2, hv, hn2, rfl⟩
    subst hv
    simp only [List.cons_append, List.nil_append]
    refine al fun bk5 => ?_
    refine L_storeW rfl rfl pk (by exact agg31.h) (by rfl) (by first | (simp [Value.oneCell', TL.hdr]; done) | (simp [Value.oneCell', TL.hdr, Value.cells]; done) | exact fun v hv => GT.one _ v hv) ?_
    refine s3 ?_
    refine L_loadW rfl rfl (by first | exact RdC.blk mm) (by exact agg31.h) ?_
    refine L_callR rfl fn11.h rfl (by exact fun w hw => iKnown_spec w n2 (rd_of_tree mm hw.sees) (by rw [hn2]; exact ho1) (by first | (rw [hn2, ← Bd.eq]; omega) | (rw [← Bd.eq]; omega))) ?_
    rintro v M1 ⟨r2_0, hv, hr2_0, rfl⟩
    subst hv
    simp only [List.cons_append, List.nil_append]
    refine s7 ?_
    refine L_callX rfl fn12.h rfl (by exact fun w hw => eqIntS_spec w r2_0 r1_0 (rd_of_tree mm hw.sees) (rd_of_tree mm hw.sees)) ?_
    refine s2 ?_
    refine kp [1, 4, 5, 6, 26] ?_
    refine W_cond rfl (fun hc8 => ?_) (fun hc8 => ?_)
    · refine s5 ?_
      -- return 2 (R9)
      refine res1 rfl (ResOK.tmp rfl) ⟨?_, rfl⟩ ms
      exfalso
      have hx2 : eqB (GT.dat r2_0) (GT.dat r1_0) = true := eqB_true.2 (by simp only [hn1, hr1_0, hn2, hr2_0])
      simp [hx2] at hc8 <;> omega
    · refine s3 ?_
      refine W_D0 [31] mix (by kernel_rfl) rfl ?_
      refine D_loadW GC.none (OpV.t rfl) (fun hg => (by first | exact RdC.blk mm)) (by exact agg31.h) ?_
      refine D_loadW GC.none (OpV.t rfl) (fun hg => (by first | exact RdC.blk mm)) (by exact agg25.h) ?_
      refine D_call1R (fun v M => ∃ m : T_ENet, v = .agg (GT.cells m).toArray ∧ GT.dat m = GT.dat t1 ∧ M = [treeH m]) fn7.h (OpVs.cons (OpV.t rfl) (OpVs.nil)) (by exact fun w F hF hM => (fun w hw => toENet_spec w _ (rd_carry h1 hw) (by omega)) w hF) ?_
      refine D_callR [_, _] (FC True (.bool true)) fn9.h ⟨⟨_, rfl, fun _ _ h => h⟩, ⟨_, rfl, fun _ _ h => h⟩, trivial⟩ (by
        rintro w F vs hw hM ⟨v1, u1, M1, rfl, ⟨rfl, hx1, _⟩, _, v2, u2, M2, rfl, ⟨m2, rfl, hd2x, rfl⟩, hin, rfl⟩
        obtain rfl := hx1 trivial
        have h := eqENet_spec w n2 m2 (rd_of_tree (hM _ mm) hw.sees) (rd_of_tree (hin _ (List.mem_singleton.2 rfl)) hw.sees)
        rw [eqB_true.2 (hn2.trans hd2x.symm)] at h
        exact h.toFC) ?_
      refine s8 ?_
      refine kp [1, 4, 5, 6, 31] ?_
      refine W_condF rfl ?_
      refine s6 ?_
      have hc_n2 : Mv.cnt n2 ≤ 1000000000000 := cntv_le n2 rfl (by rw [bulk_dat hn2]; omega)
      refine s1 ?_
      refine L_loadW rfl rfl (by first | exact RdC.blk mm) (by exact agg31.h) ?_
      refine s1 ?_
      refine L_call1 (h := treeH n2) rfl fn13.h rfl pk (by exact fun w hw => markENet_spec w n2 1 (by omega) (by omega)) ?_
      rintro v M1 ⟨hv, rfl⟩
      subst hv
      simp only [List.cons_append, List.nil_append]
      refine s4 ?_
      refine W_D0 [42] mix (by kernel_rfl) rfl ?_
      refine s5 ?_
      refine D_callX (GC.some rfl rfl) fn12.h (OpVs.cons (OpV.s rfl) (OpVs.cons (OpV.s rfl) (OpVs.nil))) (by exact fun hg w F hF hM => eqIntS_spec w r2_0 r1_0 (rd_of_tree (hM _ mm) hF.sees) (rd_of_tree (hM _ mm) hF.sees)) ?_
      refine s12 ?_
      refine kp [1, 4, 6, 42] ?_
      refine W_cond rfl (fun hc14 => ?_) (fun hc14 => ?_)
      · refine s5 ?_
        -- return 3 (R15)
        refine res1 rfl (ResOK.tmp rfl) ⟨?_, rfl⟩ ms
        exfalso
        have hx5 : eqB (GT.dat r2_0) (GT.dat r1_0) = true := eqB_true.2 (by simp only [hn1, hr1_0, hn2, hr2_0])
        simp [hx5] at hc14 <;> omega
      · refine s6 ?_
        have hc_r2_0 : Mk.cnt r2_0 ≤ 1000000000000 := cntk_le r2_0 rfl (by have := known_bd _ _ hr2_0; omega)
        refine s3 ?_
        refine L_call1 (h := treeH r2_0) rfl fn14.h rfl pk (by exact fun w hw => markIntS_spec w r2_0 1 (by omega) (by omega)) ?_
        rintro v M1 ⟨hv, rfl⟩
        subst hv
        simp only [List.cons_append, List.nil_append]
        refine s10 ?_
        refine L_callX rfl fn15.h rfl (by exact fun w hw => (by have h := heldIntS_spec w r2_0 1 (by omega) (by omega) (rd_of_tree mm hw.sees); rw [hdr_mk] at h; exact h)) ?_
        refine s8 ?_
        refine kp [1, 4, 6, 8, 9, 50] ?_
        refine W_cond rfl (fun hc20 => ?_) (fun hc20 => ?_)
        · refine s5 ?_
          -- return 4 (R21)
          refine res1 rfl (ResOK.tmp rfl) ⟨?_, rfl⟩ ms
          exfalso
          simp [] at hc20 <;> omega
        · refine s8 ?_
          refine kp [1, 4, 6, 8, 53] ?_
          refine W_cond rfl (fun hc22 => ?_) (fun hc22 => ?_)
          · refine s5 ?_
            -- return 5 (R23)
            refine res1 rfl (ResOK.tmp rfl) ⟨?_, rfl⟩ ms
            exfalso
            simp [] at hc22 <;> omega
          · refine s3 ?_
            refine L_loadW rfl rfl (by first | exact RdC.blk mm) (by exact agg25.h) ?_
            refine L_callR rfl fn7.h rfl (by exact fun w hw => toENet_spec w _ (rd_carry h1 hw) (by omega)) ?_
            rintro v M1 ⟨n3, hv, hn3, rfl⟩
            subst hv
            simp only [List.cons_append, List.nil_append]
            refine L_callR rfl fn11.h rfl (by exact fun w hw => iKnown_spec w n3 (rd_of_tree mm hw.sees) (by rw [hn3]; exact ho1) (by first | (rw [hn3, ← Bd.eq]; omega) | (rw [← Bd.eq]; omega))) ?_
            rintro v M1 ⟨r3_0, hv, hr3_0, rfl⟩
            subst hv
            simp only [List.cons_append, List.nil_append]
            refine s7 ?_
            refine L_callX rfl fn12.h rfl (by exact fun w hw => eqIntS_spec w r3_0 r1_0 (rd_of_tree mm hw.sees) (rd_of_tree mm hw.sees)) ?_
            refine s2 ?_
            refine kp [6, 8, 60] ?_
            refine W_cond rfl (fun hc25 => ?_) (fun hc25 => ?_)
            · refine s5 ?_
              -- return 6 (R26)
              refine res1 rfl (ResOK.tmp rfl) ⟨?_, rfl⟩ ms
              exfalso
              have hx2 : eqB (GT.dat r3_0) (GT.dat r1_0) = true := eqB_true.2 (by simp only [hn1, hr1_0, hn2, hr2_0, hn3, hr3_0])
              simp [hx2] at hc25 <;> omega
            · refine s9 ?_
              refine L_callX rfl fn15.h rfl (by exact fun w hw => (by have h := heldIntS_spec w r2_0 1 (by omega) (by omega) (rd_of_tree mm hw.sees); rw [hdr_mk] at h; exact h)) ?_
              refine s8 ?_
              refine kp [8, 9, 65] ?_
              refine W_cond rfl (fun hc29 => ?_) (fun hc29 => ?_)
              · refine s5 ?_
                -- return 7 (R30)
                refine res1 rfl (ResOK.tmp rfl) ⟨?_, rfl⟩ ms
                exfalso
                simp [] at hc29 <;> omega
              · refine s8 ?_
                refine kp [68] ?_
                refine W_cond rfl (fun hc31 => ?_) (fun hc31 => ?_)
                · refine s5 ?_
                  -- return 8 (R32)
                  refine res1 rfl (ResOK.tmp rfl) ⟨?_, rfl⟩ ms
                  exfalso
                  simp [] at hc31 <;> omega
                · refine s6 ?_
                  -- return 9 (R33)
                  refine res1 rfl (ResOK.tmp rfl) ⟨?_, rfl⟩ ms
                  rfl
end Go.Proofs.SL
