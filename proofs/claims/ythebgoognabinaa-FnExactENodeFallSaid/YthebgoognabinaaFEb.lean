/- The families of the exact laws over the types that they are given: equality, size, copy, marks. -/
import Derived.Test.YthebgoognabinaaFEa
import Derived.Test.YthebgoognabinaaRows
namespace Go.Proofs.SL
open Go
abbrev T_Inst := T_Id × Int × Int × Int × T_Cmd × Int × (TL T_Id) × Bool
theorem el114 : elOf Try.prog 114 = some (267, 16, 184, [.int .i64 0, .int .i64 0, .int .i64 0, .int .i64 0, .int .i64 0, .int .i64 0, .int .i64 0, .int .i64 0, .string ByteArray.empty, .string ByteArray.empty, .string ByteArray.empty, .int .i64 0, .slice none 0 0, .int .i64 0, .slice none 0 0, .bool false]) := by kernel_rfl
theorem agg267 : aggOf Try.prog 267 = some 16 := by kernel_rfl
theorem fn73 : IsFn Try.prog 73 := ⟨_, Try.func73, by kernel_rfl, rfl⟩
theorem fn236 : IsFn Try.prog 236 := ⟨_, Try.func236, by kernel_rfl, rfl⟩
theorem one4 : oneOf Try.prog 4 = true := by kernel_rfl
theorem fld267_0 : fldOf Try.prog 267 0 = some 0 := by kernel_rfl
theorem fld267_1 : fldOf Try.prog 267 1 = some 2 := by kernel_rfl
theorem fld267_2 : fldOf Try.prog 267 2 = some 3 := by kernel_rfl
theorem fld267_3 : fldOf Try.prog 267 3 = some 4 := by kernel_rfl
theorem fld267_4 : fldOf Try.prog 267 4 = some 5 := by kernel_rfl
theorem fn283 : IsFn Try.prog 283 := ⟨_, Try.func283, by kernel_rfl, rfl⟩
theorem fld267_5 : fldOf Try.prog 267 5 = some 13 := by kernel_rfl
theorem fld267_6 : fldOf Try.prog 267 6 = some 14 := by kernel_rfl
theorem one265 : oneOf Try.prog 265 = true := by kernel_rfl
theorem fn284 : IsFn Try.prog 284 := ⟨_, Try.func284, by kernel_rfl, rfl⟩
theorem fld267_7 : fldOf Try.prog 267 7 = some 15 := by kernel_rfl
theorem und4 : Try.prog.underlying 4 = some (.bool) := by kernel_rfl
theorem fld259_4 : fldOf Try.prog 259 4 = some 5 := by kernel_rfl
theorem agg256 : aggOf Try.prog 256 = some 8 := by kernel_rfl
theorem fn264 : IsFn Try.prog 264 := ⟨_, Try.func264, by kernel_rfl, rfl⟩
theorem fld259_6 : fldOf Try.prog 259 6 = some 14 := by kernel_rfl
theorem one257 : oneOf Try.prog 257 = true := by kernel_rfl
theorem fn265 : IsFn Try.prog 265 := ⟨_, Try.func265, by kernel_rfl, rfl⟩
theorem zero267 : zeroOf Try.prog 267 = some [.int .i64 0, .int .i64 0, .int .i64 0, .int .i64 0, .int .i64 0, .int .i64 0, .int .i64 0, .int .i64 0, .string ByteArray.empty, .string ByteArray.empty, .string ByteArray.empty, .int .i64 0, .slice none 0 0, .int .i64 0, .slice none 0 0, .bool false] := by kernel_rfl
theorem fld259_0 : fldOf Try.prog 259 0 = some 0 := by kernel_rfl
theorem fld259_1 : fldOf Try.prog 259 1 = some 2 := by kernel_rfl
theorem fld259_2 : fldOf Try.prog 259 2 = some 3 := by kernel_rfl
theorem fld259_3 : fldOf Try.prog 259 3 = some 4 := by kernel_rfl
theorem fn273 : IsFn Try.prog 273 := ⟨_, Try.func273, by kernel_rfl, rfl⟩
theorem fld259_5 : fldOf Try.prog 259 5 = some 13 := by kernel_rfl
theorem fn274 : IsFn Try.prog 274 := ⟨_, Try.func274, by kernel_rfl, rfl⟩
theorem fld259_7 : fldOf Try.prog 259 7 = some 15 := by kernel_rfl
theorem fn234 : IsFn Try.prog 234 := ⟨_, Try.func234, by kernel_rfl, rfl⟩
theorem el109 : elOf Try.prog 109 = some (259, 16, 184, [.int .i64 0, .int .i64 0, .int .i64 0, .int .i64 0, .int .i64 0, .int .i64 0, .int .i64 0, .int .i64 0, .string ByteArray.empty, .string ByteArray.empty, .string ByteArray.empty, .int .i64 0, .slice none 0 0, .int .i64 0, .slice none 0 0, .bool false]) := by kernel_rfl
theorem agg259 : aggOf Try.prog 259 = some 16 := by kernel_rfl
theorem fn220 : IsFn Try.prog 220 := ⟨_, Try.func220, by kernel_rfl, rfl⟩
theorem fn226 : IsFn Try.prog 226 := ⟨_, Try.func226, by kernel_rfl, rfl⟩
theorem fn74 : IsFn Try.prog 74 := ⟨_, Try.func74, by kernel_rfl, rfl⟩
theorem fn237 : IsFn Try.prog 237 := ⟨_, Try.func237, by kernel_rfl, rfl⟩
theorem eqInst_spec (w : World) (t1 t2 : T_Inst) (h1 : GT.rd w [] t1) (h2 : GT.rd w [] t2) : Spec Try.prog 234 [.agg (GT.cells t1).toArray, .agg (GT.cells t2).toArray].toArray w [] (IsV (.bool (eqB (GT.dat t1) (GT.dat t2)))) := by
  obtain ⟨⟨a11, a12⟩, a2, a3, a4, ⟨a51, a52, a53, a54, a55, a56, a57, a58⟩, a6, a7, a8⟩ := t1
  obtain ⟨⟨b11, b12⟩, b2, b3, b4, ⟨b51, b52, b53, b54, b55, b56, b57, b58⟩, b6, b7, b8⟩ := t2
  change Spec _ _ [Value.agg #[.int .i64 a11, .int .i64 a12, .int .i64 a2, .int .i64 a3, .int .i64 a4, .int .i64 a51, .int .i64 a52, .int .i64 a53, .string a54, .string a55, .string a56, .int .i64 a57, a58.hdr, .int .i64 a6, a7.hdr, .bool a8], Value.agg #[.int .i64 b11, .int .i64 b12, .int .i64 b2, .int .i64 b3, .int .i64 b4, .int .i64 b51, .int .i64 b52, .int .i64 b53, .string b54, .string b55, .string b56, .int .i64 b57, b58.hdr, .int .i64 b6, b7.hdr, .bool b8]].toArray w [] _
  refine Spec.intro Try.func234 rfl Try.ntmps234 rfl ?_
  refine W_seq ?_
  refine W_region ?_
  refine L_box rfl rfl (fun bk2 => ?_)
  refine L_box rfl rfl (fun bk3 => ?_)
  refine L_assign rfl rfl ?_
  refine L_nil ?_
  refine W_seq ?_
  refine W_seq ?_
  refine W_region ?_
  refine L_fieldAddr rfl rfl fld267_0 ?_
  refine L_loadW rfl rfl (RdC.seg (by first | exact RdC.blk (by repeat (first | exact List.Mem.head _ | apply List.Mem.tail))) 0 2 rfl) (by exact agg264) ?_
  refine L_fieldAddr rfl rfl fld267_0 ?_
  refine L_loadW rfl rfl (RdC.seg (by first | exact RdC.blk (by repeat (first | exact List.Mem.head _ | apply List.Mem.tail))) 0 2 rfl) (by exact agg264) ?_
  refine L_callX rfl fn282 rfl (by exact fun w hw => eqId_spec w (a11, a12) (b11, b12) (rd_carry (h1.1) hw) (rd_carry (h2.1) hw)) ?_
  refine L_not rfl rfl ?_
  refine L_nil ?_
  refine W_weaken (l' := [(2, _), (3, _), (10, _)]) (Sub.cons rfl (Sub.cons rfl (Sub.cons rfl (Sub.nil _)))) (MSub.refl _) ?_
  refine W_cond rfl (fun hc1 => ?_) (fun hc1 => ?_)
  · skip
    refine W_seq ?_
    refine W_region ?_
    refine L_assign rfl rfl ?_
    refine L_nil ?_
    refine W_ret ?_
    -- return 1 (R2)
    refine res1 rfl (ResOK.tmp rfl) ⟨?_, rfl⟩ (MSub.nil _)
    clear h1 h2
    first
      | (refine congrArg Value.bool (Eq.symm (eqB_false.2 fun e => ?_)); simp only [dat_pair, dat_int, dat_bool, dat_str, Prod.mk.injEq, eqB_nf, eqB_nt] at *; simp_all; done)
      | (refine congrArg Value.bool (Eq.symm (eqB_true.2 ?_)); simp only [dat_pair, dat_int, dat_bool, dat_str, Prod.mk.injEq, eqB_nf, eqB_nt] at *; simp_all; done)
      | (refine congrArg Value.bool (Eq.symm (eqB_false.2 fun e => ?_)); try simp only [dat_pair, dat_int, dat_bool, dat_str, Prod.mk.injEq] at e; simp_all; done)
      | (refine congrArg Value.bool (Eq.symm (eqB_true.2 ?_)); try simp only [dat_pair, dat_int, dat_bool, dat_str, Prod.mk.injEq]; simp_all; done)
  · skip
    refine W_skip ?_
    refine W_seq ?_
    refine W_seq ?_
    refine W_region ?_
    refine L_fieldAddr rfl rfl fld267_1 ?_
    refine L_load rfl rfl (by first | exact RdC.blk (by repeat (first | exact List.Mem.head _ | apply List.Mem.tail))) one3 rfl ?_
    refine L_fieldAddr rfl rfl fld267_1 ?_
    refine L_load rfl rfl (by first | exact RdC.blk (by repeat (first | exact List.Mem.head _ | apply List.Mem.tail))) one3 rfl ?_
    refine L_binV rfl rfl rfl bv_neq ?_
    refine L_nil ?_
    refine W_weaken (l' := [(2, _), (3, _), (15, _)]) (Sub.cons rfl (Sub.cons rfl (Sub.cons rfl (Sub.nil _)))) (MSub.refl _) ?_
    refine W_cond rfl (fun hc3 => ?_) (fun hc3 => ?_)
    · skip
      refine W_seq ?_
      refine W_region ?_
      refine L_assign rfl rfl ?_
      refine L_nil ?_
      refine W_ret ?_
      -- return 2 (R4)
      refine res1 rfl (ResOK.tmp rfl) ⟨?_, rfl⟩ (MSub.nil _)
      clear h1 h2
      first
        | (refine congrArg Value.bool (Eq.symm (eqB_false.2 fun e => ?_)); simp only [dat_pair, dat_int, dat_bool, dat_str, Prod.mk.injEq, eqB_nf, eqB_nt] at *; simp_all; done)
        | (refine congrArg Value.bool (Eq.symm (eqB_true.2 ?_)); simp only [dat_pair, dat_int, dat_bool, dat_str, Prod.mk.injEq, eqB_nf, eqB_nt] at *; simp_all; done)
        | (refine congrArg Value.bool (Eq.symm (eqB_false.2 fun e => ?_)); try simp only [dat_pair, dat_int, dat_bool, dat_str, Prod.mk.injEq] at e; simp_all; done)
        | (refine congrArg Value.bool (Eq.symm (eqB_true.2 ?_)); try simp only [dat_pair, dat_int, dat_bool, dat_str, Prod.mk.injEq]; simp_all; done)
    · skip
      refine W_skip ?_
      refine W_seq ?_
      refine W_seq ?_
      refine W_region ?_
      refine L_fieldAddr rfl rfl fld267_2 ?_
      refine L_load rfl rfl (by first | exact RdC.blk (by repeat (first | exact List.Mem.head _ | apply List.Mem.tail))) one3 rfl ?_
      refine L_fieldAddr rfl rfl fld267_2 ?_
      refine L_load rfl rfl (by first | exact RdC.blk (by repeat (first | exact List.Mem.head _ | apply List.Mem.tail))) one3 rfl ?_
      refine L_binV rfl rfl rfl bv_neq ?_
      refine L_nil ?_
      refine W_weaken (l' := [(2, _), (3, _), (20, _)]) (Sub.cons rfl (Sub.cons rfl (Sub.cons rfl (Sub.nil _)))) (MSub.refl _) ?_
      refine W_cond rfl (fun hc5 => ?_) (fun hc5 => ?_)
      · skip
        refine W_seq ?_
        refine W_region ?_
        refine L_assign rfl rfl ?_
        refine L_nil ?_
        refine W_ret ?_
        -- return 3 (R6)
        refine res1 rfl (ResOK.tmp rfl) ⟨?_, rfl⟩ (MSub.nil _)
        clear h1 h2
        first
          | (refine congrArg Value.bool (Eq.symm (eqB_false.2 fun e => ?_)); simp only [dat_pair, dat_int, dat_bool, dat_str, Prod.mk.injEq, eqB_nf, eqB_nt] at *; simp_all; done)
          | (refine congrArg Value.bool (Eq.symm (eqB_true.2 ?_)); simp only [dat_pair, dat_int, dat_bool, dat_str, Prod.mk.injEq, eqB_nf, eqB_nt] at *; simp_all; done)
          | (refine congrArg Value.bool (Eq.symm (eqB_false.2 fun e => ?_)); try simp only [dat_pair, dat_int, dat_bool, dat_str, Prod.mk.injEq] at e; simp_all; done)
          | (refine congrArg Value.bool (Eq.symm (eqB_true.2 ?_)); try simp only [dat_pair, dat_int, dat_bool, dat_str, Prod.mk.injEq]; simp_all; done)
      · skip
        refine W_skip ?_
        refine W_seq ?_
        refine W_seq ?_
        refine W_region ?_
        refine L_fieldAddr rfl rfl fld267_3 ?_
        refine L_load rfl rfl (by first | exact RdC.blk (by repeat (first | exact List.Mem.head _ | apply List.Mem.tail))) one3 rfl ?_
        refine L_fieldAddr rfl rfl fld267_3 ?_
        refine L_load rfl rfl (by first | exact RdC.blk (by repeat (first | exact List.Mem.head _ | apply List.Mem.tail))) one3 rfl ?_
        refine L_binV rfl rfl rfl bv_neq ?_
        refine L_nil ?_
        refine W_weaken (l' := [(2, _), (3, _), (25, _)]) (Sub.cons rfl (Sub.cons rfl (Sub.cons rfl (Sub.nil _)))) (MSub.refl _) ?_
        refine W_cond rfl (fun hc7 => ?_) (fun hc7 => ?_)
        · skip
          refine W_seq ?_
          refine W_region ?_
          refine L_assign rfl rfl ?_
          refine L_nil ?_
          refine W_ret ?_
          -- return 4 (R8)
          refine res1 rfl (ResOK.tmp rfl) ⟨?_, rfl⟩ (MSub.nil _)
          clear h1 h2
          first
            | (refine congrArg Value.bool (Eq.symm (eqB_false.2 fun e => ?_)); simp only [dat_pair, dat_int, dat_bool, dat_str, Prod.mk.injEq, eqB_nf, eqB_nt] at *; simp_all; done)
            | (refine congrArg Value.bool (Eq.symm (eqB_true.2 ?_)); simp only [dat_pair, dat_int, dat_bool, dat_str, Prod.mk.injEq, eqB_nf, eqB_nt] at *; simp_all; done)
            | (refine congrArg Value.bool (Eq.symm (eqB_false.2 fun e => ?_)); try simp only [dat_pair, dat_int, dat_bool, dat_str, Prod.mk.injEq] at e; simp_all; done)
            | (refine congrArg Value.bool (Eq.symm (eqB_true.2 ?_)); try simp only [dat_pair, dat_int, dat_bool, dat_str, Prod.mk.injEq]; simp_all; done)
        · skip
          refine W_skip ?_
          refine W_seq ?_
          refine W_seq ?_
          refine W_region ?_
          refine L_fieldAddr rfl rfl fld267_4 ?_
          refine L_loadW rfl rfl (RdC.seg (by first | exact RdC.blk (by repeat (first | exact List.Mem.head _ | apply List.Mem.tail))) 5 8 rfl) (by exact agg129) ?_
          refine L_fieldAddr rfl rfl fld267_4 ?_
          refine L_loadW rfl rfl (RdC.seg (by first | exact RdC.blk (by repeat (first | exact List.Mem.head _ | apply List.Mem.tail))) 5 8 rfl) (by exact agg129) ?_
          refine L_callX rfl fn283 rfl (by exact fun w hw => eqCmd_spec w (a51, a52, a53, a54, a55, a56, a57, a58) (b51, b52, b53, b54, b55, b56, b57, b58) (rd_carry (h1.2.2.2.2.1) hw) (rd_carry (h2.2.2.2.2.1) hw)) ?_
          refine L_not rfl rfl ?_
          refine L_nil ?_
          refine W_weaken (l' := [(2, _), (3, _), (31, _)]) (Sub.cons rfl (Sub.cons rfl (Sub.cons rfl (Sub.nil _)))) (MSub.refl _) ?_
          refine W_cond rfl (fun hc9 => ?_) (fun hc9 => ?_)
          · skip
            refine W_seq ?_
            refine W_region ?_
            refine L_assign rfl rfl ?_
            refine L_nil ?_
            refine W_ret ?_
            -- return 5 (R10)
            refine res1 rfl (ResOK.tmp rfl) ⟨?_, rfl⟩ (MSub.nil _)
            clear h1 h2
            first
              | (refine congrArg Value.bool (Eq.symm (eqB_false.2 fun e => ?_)); simp only [dat_pair, dat_int, dat_bool, dat_str, Prod.mk.injEq, eqB_nf, eqB_nt] at *; simp_all; done)
              | (refine congrArg Value.bool (Eq.symm (eqB_true.2 ?_)); simp only [dat_pair, dat_int, dat_bool, dat_str, Prod.mk.injEq, eqB_nf, eqB_nt] at *; simp_all; done)
              | (refine congrArg Value.bool (Eq.symm (eqB_false.2 fun e => ?_)); try simp only [dat_pair, dat_int, dat_bool, dat_str, Prod.mk.injEq] at e; simp_all; done)
              | (refine congrArg Value.bool (Eq.symm (eqB_true.2 ?_)); try simp only [dat_pair, dat_int, dat_bool, dat_str, Prod.mk.injEq]; simp_all; done)
          · skip
            refine W_skip ?_
            refine W_seq ?_
            refine W_seq ?_
            refine W_region ?_
            refine L_fieldAddr rfl rfl fld267_5 ?_
            refine L_load rfl rfl (by first | exact RdC.blk (by repeat (first | exact List.Mem.head _ | apply List.Mem.tail))) one3 rfl ?_
            refine L_fieldAddr rfl rfl fld267_5 ?_
            refine L_load rfl rfl (by first | exact RdC.blk (by repeat (first | exact List.Mem.head _ | apply List.Mem.tail))) one3 rfl ?_
            refine L_binV rfl rfl rfl bv_neq ?_
            refine L_nil ?_
            refine W_weaken (l' := [(2, _), (3, _), (36, _)]) (Sub.cons rfl (Sub.cons rfl (Sub.cons rfl (Sub.nil _)))) (MSub.refl _) ?_
            refine W_cond rfl (fun hc11 => ?_) (fun hc11 => ?_)
            · skip
              refine W_seq ?_
              refine W_region ?_
              refine L_assign rfl rfl ?_
              refine L_nil ?_
              refine W_ret ?_
              -- return 6 (R12)
              refine res1 rfl (ResOK.tmp rfl) ⟨?_, rfl⟩ (MSub.nil _)
              clear h1 h2
              first
                | (refine congrArg Value.bool (Eq.symm (eqB_false.2 fun e => ?_)); simp only [dat_pair, dat_int, dat_bool, dat_str, Prod.mk.injEq, eqB_nf, eqB_nt] at *; simp_all; done)
                | (refine congrArg Value.bool (Eq.symm (eqB_true.2 ?_)); simp only [dat_pair, dat_int, dat_bool, dat_str, Prod.mk.injEq, eqB_nf, eqB_nt] at *; simp_all; done)
                | (refine congrArg Value.bool (Eq.symm (eqB_false.2 fun e => ?_)); try simp only [dat_pair, dat_int, dat_bool, dat_str, Prod.mk.injEq] at e; simp_all; done)
                | (refine congrArg Value.bool (Eq.symm (eqB_true.2 ?_)); try simp only [dat_pair, dat_int, dat_bool, dat_str, Prod.mk.injEq]; simp_all; done)
            · skip
              refine W_skip ?_
              refine W_seq ?_
              refine W_seq ?_
              refine W_region ?_
              refine L_fieldAddr rfl rfl fld267_6 ?_
              refine L_load rfl rfl (by first | exact RdC.blk (by repeat (first | exact List.Mem.head _ | apply List.Mem.tail))) one265 rfl ?_
              refine L_fieldAddr rfl rfl fld267_6 ?_
              refine L_load rfl rfl (by first | exact RdC.blk (by repeat (first | exact List.Mem.head _ | apply List.Mem.tail))) one265 rfl ?_
              refine L_callX rfl fn284 rfl (by exact fun w hw => eqIdS_spec w _ _ (rd_carry (h1.2.2.2.2.2.2.1) hw) (rd_carry (h2.2.2.2.2.2.2.1) hw)) ?_
              refine L_not rfl rfl ?_
              refine L_nil ?_
              refine W_weaken (l' := [(2, _), (3, _), (42, _)]) (Sub.cons rfl (Sub.cons rfl (Sub.cons rfl (Sub.nil _)))) (MSub.refl _) ?_
              refine W_cond rfl (fun hc13 => ?_) (fun hc13 => ?_)
              · skip
                refine W_seq ?_
                refine W_region ?_
                refine L_assign rfl rfl ?_
                refine L_nil ?_
                refine W_ret ?_
                -- return 7 (R14)
                refine res1 rfl (ResOK.tmp rfl) ⟨?_, rfl⟩ (MSub.nil _)
                clear h1 h2
                first
                  | (refine congrArg Value.bool (Eq.symm (eqB_false.2 fun e => ?_)); simp only [dat_pair, dat_int, dat_bool, dat_str, Prod.mk.injEq, eqB_nf, eqB_nt] at *; simp_all; done)
                  | (refine congrArg Value.bool (Eq.symm (eqB_true.2 ?_)); simp only [dat_pair, dat_int, dat_bool, dat_str, Prod.mk.injEq, eqB_nf, eqB_nt] at *; simp_all; done)
                  | (refine congrArg Value.bool (Eq.symm (eqB_false.2 fun e => ?_)); try simp only [dat_pair, dat_int, dat_bool, dat_str, Prod.mk.injEq] at e; simp_all; done)
                  | (refine congrArg Value.bool (Eq.symm (eqB_true.2 ?_)); try simp only [dat_pair, dat_int, dat_bool, dat_str, Prod.mk.injEq]; simp_all; done)
              · skip
                refine W_skip ?_
                refine W_seq ?_
                refine W_seq ?_
                refine W_region ?_
                refine L_fieldAddr rfl rfl fld267_7 ?_
                refine L_load rfl rfl (by first | exact RdC.blk (by repeat (first | exact List.Mem.head _ | apply List.Mem.tail))) one4 rfl ?_
                refine L_fieldAddr rfl rfl fld267_7 ?_
                refine L_load rfl rfl (by first | exact RdC.blk (by repeat (first | exact List.Mem.head _ | apply List.Mem.tail))) one4 rfl ?_
                refine L_binV rfl rfl rfl (bv_bneq und4) ?_
                refine L_nil ?_
                refine W_weaken (l' := [(47, _)]) (Sub.cons rfl (Sub.nil _)) (MSub.refl _) ?_
                refine W_cond rfl (fun hc15 => ?_) (fun hc15 => ?_)
                · skip
                  refine W_seq ?_
                  refine W_region ?_
                  refine L_assign rfl rfl ?_
                  refine L_nil ?_
                  refine W_ret ?_
                  -- return 8 (R16)
                  refine res1 rfl (ResOK.tmp rfl) ⟨?_, rfl⟩ (MSub.nil _)
                  clear h1 h2
                  first
                    | (refine congrArg Value.bool (Eq.symm (eqB_false.2 fun e => ?_)); simp only [dat_pair, dat_int, dat_bool, dat_str, Prod.mk.injEq, eqB_nf, eqB_nt] at *; simp_all; done)
                    | (refine congrArg Value.bool (Eq.symm (eqB_true.2 ?_)); simp only [dat_pair, dat_int, dat_bool, dat_str, Prod.mk.injEq, eqB_nf, eqB_nt] at *; simp_all; done)
                    | (refine congrArg Value.bool (Eq.symm (eqB_false.2 fun e => ?_)); try simp only [dat_pair, dat_int, dat_bool, dat_str, Prod.mk.injEq] at e; simp_all; done)
                    | (refine congrArg Value.bool (Eq.symm (eqB_true.2 ?_)); try simp only [dat_pair, dat_int, dat_bool, dat_str, Prod.mk.injEq]; simp_all; done)
                · skip
                  refine W_skip ?_
                  refine W_seq ?_
                  refine W_region ?_
                  refine L_assign rfl rfl ?_
                  refine L_nil ?_
                  refine W_ret ?_
                  -- return 9 (R17)
                  refine res1 rfl (ResOK.tmp rfl) ⟨?_, rfl⟩ (MSub.nil _)
                  clear h1 h2
                  first
                    | (refine congrArg Value.bool (Eq.symm (eqB_false.2 fun e => ?_)); simp only [dat_pair, dat_int, dat_bool, dat_str, Prod.mk.injEq, eqB_nf, eqB_nt] at *; simp_all; done)
                    | (refine congrArg Value.bool (Eq.symm (eqB_true.2 ?_)); simp only [dat_pair, dat_int, dat_bool, dat_str, Prod.mk.injEq, eqB_nf, eqB_nt] at *; simp_all; done)
                    | (refine congrArg Value.bool (Eq.symm (eqB_false.2 fun e => ?_)); try simp only [dat_pair, dat_int, dat_bool, dat_str, Prod.mk.injEq] at e; simp_all; done)
                    | (refine congrArg Value.bool (Eq.symm (eqB_true.2 ?_)); try simp only [dat_pair, dat_int, dat_bool, dat_str, Prod.mk.injEq]; simp_all; done)

theorem szInst_spec (w : World) (t1 : T_Inst) (left : Int) (hl : 0 ≤ left) (hm : left ≤ 1048576) (h1 : GT.rd w [] t1) (ho : Ok.ok (GT.dat t1)) : Spec Try.prog 220 [.agg (GT.cells t1).toArray, .int .i64 left].toArray w [] (IsV (.int .i64 (if (Bk.bulk t1 : Int) ≤ left then left - (Bk.bulk t1 : Int) else -1))) := by
  obtain ⟨⟨a11, a12⟩, a2, a3, a4, ⟨a51, a52, a53, a54, a55, a56, a57, a58⟩, a6, a7, a8⟩ := t1
  change Spec _ _ [Value.agg #[.int .i64 a11, .int .i64 a12, .int .i64 a2, .int .i64 a3, .int .i64 a4, .int .i64 a51, .int .i64 a52, .int .i64 a53, .string a54, .string a55, .string a56, .int .i64 a57, a58.hdr, .int .i64 a6, a7.hdr, .bool a8], .int .i64 left].toArray w [] _
  refine Spec.intro Try.func220 rfl Try.ntmps220 rfl ?_
  refine W_seq ?_
  refine W_region ?_
  refine L_box rfl rfl (fun bk2 => ?_)
  refine L_assign rfl rfl ?_
  refine L_nil ?_
  refine W_seq ?_
  refine W_region ?_
  refine L_fieldAddr rfl rfl fld259_4 ?_
  refine L_loadW rfl rfl (RdC.seg (by first | exact RdC.blk (by repeat (first | exact List.Mem.head _ | apply List.Mem.tail))) 5 8 rfl) (by exact agg256) ?_
  refine L_move rfl rfl ?_
  refine L_callX rfl fn264 rfl (by exact fun w hw => szCmd_spec w (a51, a52, a53, a54, a55, a56, a57, a58) (left) (by omega) (by omega) (rd_carry (h1.2.2.2.2.1) hw) ho.2.2.2.2.1) ?_
  refine L_assign rfl rfl ?_
  refine L_nil ?_
  refine W_seq ?_
  refine W_seq ?_
  refine W_region ?_
  refine L_move rfl rfl ?_
  refine L_binV rfl rfl rfl bv_lss ?_
  refine L_nil ?_
  refine W_weaken (l' := [(1, _), (2, _), (10, _)]) (Sub.cons rfl (Sub.cons rfl (Sub.cons rfl (Sub.nil _)))) (MSub.refl _) ?_
  refine W_cond rfl (fun hc2 => ?_) (fun hc2 => ?_)
  · skip
    have hb4 : ¬ ((Bk.bulk (a51, a52, a53, a54, a55, a56, a57, a58) : Int) ≤ left) := by
      intro hn
      rw [if_pos hn] at hc2; simp at hc2; omega
    refine W_seq ?_
    refine W_region ?_
    refine L_assign rfl rfl ?_
    refine L_nil ?_
    refine W_ret ?_
    -- return 1 (R3)
    refine res1 rfl (ResOK.tmp rfl) ⟨?_, rfl⟩ (MSub.nil _)
    try simp only [bulk_pair, bulk_int, bulk_bool, bulk_str, Int.natCast_add, Int.natCast_zero] at *
    all_goals first
      | rfl
      | (rw [if_pos (by omega)] <;> (congr 1 <;> omega))
      | (rw [if_neg (by omega)])
  · skip
    have hb4 : (Bk.bulk (a51, a52, a53, a54, a55, a56, a57, a58) : Int) ≤ left := by
      rcases Int.decLt (left) (Bk.bulk (a51, a52, a53, a54, a55, a56, a57, a58) : Int) with hn | hn
      · omega
      · rw [if_neg (by omega)] at hc2; simp at hc2
    rw [if_pos hb4]
    refine W_skip ?_
    refine W_seq ?_
    refine W_region ?_
    refine L_fieldAddr rfl rfl fld259_6 ?_
    refine L_load rfl rfl (by first | exact RdC.blk (by repeat (first | exact List.Mem.head _ | apply List.Mem.tail))) one257 rfl ?_
    refine L_move rfl rfl ?_
    refine L_callX rfl fn265 rfl (by exact fun w hw => szIdS_spec w _ (left - (Bk.bulk (a51, a52, a53, a54, a55, a56, a57, a58) : Int)) (by omega) (by omega) (rd_carry (h1.2.2.2.2.2.2.1) hw) ho.2.2.2.2.2.2.1) ?_
    refine L_assign rfl rfl ?_
    refine L_nil ?_
    refine W_seq ?_
    refine W_seq ?_
    refine W_region ?_
    refine L_move rfl rfl ?_
    refine L_binV rfl rfl rfl bv_lss ?_
    refine L_nil ?_
    refine W_weaken (l' := [(1, _), (16, _)]) (Sub.cons rfl (Sub.cons rfl (Sub.nil _))) (MSub.refl _) ?_
    refine W_cond rfl (fun hc5 => ?_) (fun hc5 => ?_)
    · skip
      have hb6 : ¬ ((Bk.bulk a7 : Int) ≤ left - (Bk.bulk (a51, a52, a53, a54, a55, a56, a57, a58) : Int)) := by
        intro hn
        rw [if_pos hn] at hc5; simp at hc5; omega
      refine W_seq ?_
      refine W_region ?_
      refine L_assign rfl rfl ?_
      refine L_nil ?_
      refine W_ret ?_
      -- return 2 (R6)
      refine res1 rfl (ResOK.tmp rfl) ⟨?_, rfl⟩ (MSub.nil _)
      try simp only [bulk_pair, bulk_int, bulk_bool, bulk_str, Int.natCast_add, Int.natCast_zero] at *
      all_goals first
        | rfl
        | (rw [if_pos (by omega)] <;> (congr 1 <;> omega))
        | (rw [if_neg (by omega)])
    · skip
      have hb6 : (Bk.bulk a7 : Int) ≤ left - (Bk.bulk (a51, a52, a53, a54, a55, a56, a57, a58) : Int) := by
        rcases Int.decLt (left - (Bk.bulk (a51, a52, a53, a54, a55, a56, a57, a58) : Int)) (Bk.bulk a7 : Int) with hn | hn
        · omega
        · rw [if_neg (by omega)] at hc5; simp at hc5
      rw [if_pos hb6]
      refine W_skip ?_
      refine W_seq ?_
      refine W_region ?_
      refine L_move rfl rfl ?_
      refine L_assign rfl rfl ?_
      refine L_nil ?_
      refine W_ret ?_
      -- return 3 (R7)
      refine res1 rfl (ResOK.tmp rfl) ⟨?_, rfl⟩ (MSub.nil _)
      try simp only [bulk_pair, bulk_int, bulk_bool, bulk_str, Int.natCast_add, Int.natCast_zero] at *
      all_goals first
        | rfl
        | (rw [if_pos (by omega)] <;> (congr 1 <;> omega))
        | (rw [if_neg (by omega)])

theorem toInst_spec (w : World) (t1 : T_Inst) (h1 : GT.rd w [] t1) (hb : Bk.bulk t1 ≤ 1048576) : Spec Try.prog 226 [.agg (GT.cells t1).toArray].toArray w [] (fun v M => ∃ t2 : T_Inst, v = .agg (GT.cells t2).toArray ∧ GT.dat t2 = GT.dat t1 ∧ M = [treeH t2]) := by
  obtain ⟨⟨a11, a12⟩, a2, a3, a4, ⟨a51, a52, a53, a54, a55, a56, a57, a58⟩, a6, a7, a8⟩ := t1
  have hbk_0 : Bk.bulk (a11, a12) ≤ 1048576 := by (try simp only [bulk_pair, bulk_int, bulk_bool, bulk_str] at hb ⊢); omega
  have hbk_4 : Bk.bulk (a51, a52, a53, a54, a55, a56, a57, a58) ≤ 1048576 := by (try simp only [bulk_pair, bulk_int, bulk_bool, bulk_str] at hb ⊢); omega
  have hbk_6 : Bk.bulk a7 ≤ 1048576 := by (try simp only [bulk_pair, bulk_int, bulk_bool, bulk_str] at hb ⊢); omega
  change Spec _ _ [Value.agg #[.int .i64 a11, .int .i64 a12, .int .i64 a2, .int .i64 a3, .int .i64 a4, .int .i64 a51, .int .i64 a52, .int .i64 a53, .string a54, .string a55, .string a56, .int .i64 a57, a58.hdr, .int .i64 a6, a7.hdr, .bool a8]].toArray w [] _
  refine Spec.intro Try.func226 rfl Try.ntmps226 rfl ?_
  refine W_seq ?_
  refine W_region ?_
  refine L_box rfl rfl (fun bk1 => ?_)
  refine L_alloc rfl zero267 (fun bk2 => ?_)
  refine L_nil ?_
  refine W_seq ?_
  refine W_region ?_
  refine L_alloc rfl zero267 (fun bk3 => ?_)
  refine L_nil ?_
  refine W_seq ?_
  refine W_region ?_
  refine L_fieldAddr rfl rfl fld259_0 ?_
  refine L_loadW rfl rfl (RdC.seg (by first | exact RdC.blk (by repeat (first | exact List.Mem.head _ | apply List.Mem.tail))) 0 2 rfl) (by exact agg255) ?_
  refine L_callR rfl fn272 rfl (by exact fun w hw => toId_spec w (a11, a12) (rd_carry (h1.1) hw) hbk_0) ?_
  rintro v M1 ⟨n1t, hv, hd0, rfl⟩
  obtain ⟨n11, n12⟩ := n1t
  subst hv
  simp only [List.cons_append, List.nil_append]
  refine L_fieldAddr rfl rfl fld267_0 ?_
  refine L_storeA (fo := 0) rfl rfl (by repeat (first | exact Pick.here _ | apply Pick.there)) (by exact agg264) (Nat.le_of_ble_eq_true rfl) (by first | (simp [Value.oneCell', TL.hdr]; done) | (simp [Value.oneCell', TL.hdr, Value.cells]; done) | exact fun v hv => GT.one _ v hv) (by simp only [cells_pair, cells_int, cells_bool, cells_str, cells_TL, List.take_zero, List.take_succ_cons, List.drop_zero, List.drop_succ_cons, List.set_cons_zero, List.set_cons_succ, List.length_cons, List.length_nil, List.cons_append, List.nil_append, List.append_nil, Nat.zero_add, Nat.reduceAdd]; rfl) ?_
  refine L_nil ?_
  refine W_seq ?_
  refine W_region ?_
  refine L_fieldAddr rfl rfl fld259_1 ?_
  refine L_load rfl rfl (by first | exact RdC.blk (by repeat (first | exact List.Mem.head _ | apply List.Mem.tail))) one3 rfl ?_
  refine L_fieldAddr rfl rfl fld267_1 ?_
  refine L_store rfl rfl (by repeat (first | exact Pick.here _ | apply Pick.there)) one3 rfl rfl ?_
  refine L_nil ?_
  refine W_seq ?_
  refine W_region ?_
  refine L_fieldAddr rfl rfl fld259_2 ?_
  refine L_load rfl rfl (by first | exact RdC.blk (by repeat (first | exact List.Mem.head _ | apply List.Mem.tail))) one3 rfl ?_
  refine L_fieldAddr rfl rfl fld267_2 ?_
  refine L_store rfl rfl (by repeat (first | exact Pick.here _ | apply Pick.there)) one3 rfl rfl ?_
  refine L_nil ?_
  refine W_seq ?_
  refine W_region ?_
  refine L_fieldAddr rfl rfl fld259_3 ?_
  refine L_load rfl rfl (by first | exact RdC.blk (by repeat (first | exact List.Mem.head _ | apply List.Mem.tail))) one3 rfl ?_
  refine L_fieldAddr rfl rfl fld267_3 ?_
  refine L_store rfl rfl (by repeat (first | exact Pick.here _ | apply Pick.there)) one3 rfl rfl ?_
  refine L_nil ?_
  refine W_seq ?_
  refine W_region ?_
  refine L_fieldAddr rfl rfl fld259_4 ?_
  refine L_loadW rfl rfl (RdC.seg (by first | exact RdC.blk (by repeat (first | exact List.Mem.head _ | apply List.Mem.tail))) 5 8 rfl) (by exact agg256) ?_
  refine L_callR rfl fn273 rfl (by exact fun w hw => toCmd_spec w (a51, a52, a53, a54, a55, a56, a57, a58) (rd_carry (h1.2.2.2.2.1) hw) hbk_4) ?_
  rintro v M1 ⟨n5t, hv, hd4, rfl⟩
  obtain ⟨n51, n52, n53, n54, n55, n56, n57, n58⟩ := n5t
  subst hv
  simp only [List.cons_append, List.nil_append]
  refine L_fieldAddr rfl rfl fld267_4 ?_
  refine L_storeA (fo := 5) rfl rfl (by repeat (first | exact Pick.here _ | apply Pick.there)) (by exact agg129) (Nat.le_of_ble_eq_true rfl) (by first | (simp [Value.oneCell', TL.hdr]; done) | (simp [Value.oneCell', TL.hdr, Value.cells]; done) | exact fun v hv => GT.one _ v hv) (by simp only [cells_pair, cells_int, cells_bool, cells_str, cells_TL, List.take_zero, List.take_succ_cons, List.drop_zero, List.drop_succ_cons, List.set_cons_zero, List.set_cons_succ, List.length_cons, List.length_nil, List.cons_append, List.nil_append, List.append_nil, Nat.zero_add, Nat.reduceAdd]; rfl) ?_
  refine L_nil ?_
  refine W_seq ?_
  refine W_region ?_
  refine L_fieldAddr rfl rfl fld259_5 ?_
  refine L_load rfl rfl (by first | exact RdC.blk (by repeat (first | exact List.Mem.head _ | apply List.Mem.tail))) one3 rfl ?_
  refine L_fieldAddr rfl rfl fld267_5 ?_
  refine L_store rfl rfl (by repeat (first | exact Pick.here _ | apply Pick.there)) one3 rfl rfl ?_
  refine L_nil ?_
  refine W_seq ?_
  refine W_region ?_
  refine L_fieldAddr rfl rfl fld259_6 ?_
  refine L_load rfl rfl (by first | exact RdC.blk (by repeat (first | exact List.Mem.head _ | apply List.Mem.tail))) one257 rfl ?_
  refine L_callR rfl fn274 rfl (by exact fun w hw => toIdS_spec w _ (rd_carry (h1.2.2.2.2.2.2.1) hw) hbk_6) ?_
  rintro v M1 ⟨n7t, hv, hd6, rfl⟩
  subst hv
  simp only [List.cons_append, List.nil_append]
  refine L_fieldAddr rfl rfl fld267_6 ?_
  refine L_store rfl rfl (by repeat (first | exact Pick.here _ | apply Pick.there)) one265 rfl rfl ?_
  refine L_nil ?_
  refine W_seq ?_
  refine W_region ?_
  refine L_fieldAddr rfl rfl fld259_7 ?_
  refine L_load rfl rfl (by first | exact RdC.blk (by repeat (first | exact List.Mem.head _ | apply List.Mem.tail))) one4 rfl ?_
  refine L_fieldAddr rfl rfl fld267_7 ?_
  refine L_store rfl rfl (by repeat (first | exact Pick.here _ | apply Pick.there)) one4 rfl rfl ?_
  refine L_nil ?_
  refine W_seq ?_
  refine W_region ?_
  refine L_loadW rfl rfl (by first | exact RdC.blk (by repeat (first | exact List.Mem.head _ | apply List.Mem.tail))) (by exact agg267) ?_
  refine L_storeW rfl rfl (by repeat (first | exact Pick.here _ | apply Pick.there)) (by exact agg267) (by rfl) (by first | (simp [Value.oneCell', TL.hdr]; done) | (simp [Value.oneCell', TL.hdr, Value.cells]; done) | exact fun v hv => GT.one _ v hv) ?_
  refine L_nil ?_
  refine W_conv (M' := treeH (n7t, a8) :: _) (fun w h => pairPick (by repeat (first | exact Pick.here _ | apply Pick.there)) (h.addFlat (flat_bool _))) ?_
  refine W_conv (M' := treeH (a6, n7t, a8) :: _) (fun w h => tree_snd (flat_int (h1.2.2.2.2.2.1)) h) ?_
  refine W_conv (M' := treeH ((n51, n52, n53, n54, n55, n56, n57, n58), a6, n7t, a8) :: _) (fun w h => pairPick (by repeat (first | exact Pick.here _ | apply Pick.there)) h) ?_
  refine W_conv (M' := treeH (a4, (n51, n52, n53, n54, n55, n56, n57, n58), a6, n7t, a8) :: _) (fun w h => tree_snd (flat_int (h1.2.2.2.1)) h) ?_
  refine W_conv (M' := treeH (a3, a4, (n51, n52, n53, n54, n55, n56, n57, n58), a6, n7t, a8) :: _) (fun w h => tree_snd (flat_int (h1.2.2.1)) h) ?_
  refine W_conv (M' := treeH (a2, a3, a4, (n51, n52, n53, n54, n55, n56, n57, n58), a6, n7t, a8) :: _) (fun w h => tree_snd (flat_int (h1.2.1)) h) ?_
  refine W_conv (M' := treeH ((n11, n12), a2, a3, a4, (n51, n52, n53, n54, n55, n56, n57, n58), a6, n7t, a8) :: _) (fun w h => pairPick (by repeat (first | exact Pick.here _ | apply Pick.there)) h) ?_
  refine W_ret ?_
  -- return 1 (R10)
  refine res1 rfl (ResOK.cell rfl (by repeat (first | exact List.Mem.head _ | apply List.Mem.tail)) (by exact agg267)) ⟨((n11, n12), a2, a3, a4, (n51, n52, n53, n54, n55, n56, n57, n58), a6, n7t, a8), rfl, by simp only [dat_pair, hd0, hd4, hd6], rfl⟩ (MSub.cons (by repeat (first | exact Pick.here _ | apply Pick.there)) (MSub.nil _))

theorem eqInstS_spec (w : World) (t1 t2 : TL T_Inst) (h1 : GT.rd w [] t1) (h2 : GT.rd w [] t2) : Spec Try.prog 168 [t1.hdr, t2.hdr].toArray w [] (IsV (.bool (eqB (GT.dat t1) (GT.dat t2)))) := by
  obtain ⟨a1, c1, e1, x1, y1⟩ := t1
  obtain ⟨a2, c2, e2, x2, y2⟩ := t2
  have hm1 : x1.length ≤ 9223372036854775807 := rd_len h1
  have hm2 : x2.length ≤ 9223372036854775807 := rd_len h2
  dsimp only [TL.hdr]
  refine Spec.intro Try.func168 rfl Try.ntmps168 rfl ?_
  refine W_seq ?_
  refine W_region ?_
  refine L_assign rfl rfl ?_
  refine L_nil ?_
  refine W_seq ?_
  refine W_seq ?_
  refine W_region ?_
  refine L_move rfl rfl ?_
  refine L_lenS rfl rfl el114 ?_
  refine L_move rfl rfl ?_
  refine L_lenS rfl rfl el114 ?_
  refine L_binV rfl rfl rfl bv_neq ?_
  refine L_nil ?_
  refine W_weaken (l' := [(0, _), (1, _), (10, _)]) (Sub.cons rfl (Sub.cons rfl (Sub.cons rfl (Sub.nil _)))) (MSub.refl _) ?_
  refine W_cond rfl (fun hc1 => ?_) (fun hc1 => ?_)
  · skip
    refine W_seq ?_
    refine W_region ?_
    refine L_assign rfl rfl ?_
    refine L_nil ?_
    refine W_ret ?_
    -- return 1 (R2)
    refine res1 rfl (ResOK.tmp rfl) ⟨?_, rfl⟩ (MSub.nil _)
    refine congrArg Value.bool (Eq.symm (eqB_false.2 fun e => ?_))
    simp at hc1
    exact hc1 (by have := congrArg List.length e; simp [dat_TL] at this; omega)
  · skip
    have hl : x1.length = x2.length := by simp at hc1; omega
    refine W_skip ?_
    refine W_seq ?_
    refine W_seq ?_
    refine W_region ?_
    refine L_assign rfl rfl ?_
    refine L_nil ?_
    refine W_block ?_
    refine W_loopC (σ := Nat) 0 (fun (k : Nat) => [(5, .int .i64 (k : Int))]) (fun (k : Nat) => []) (fun (k : Nat) => k ≤ x1.length ∧ (x1.map GT.dat).take k = (x2.map GT.dat).take k) (fun (k : Nat) => x1.length - k) [(0, _), (1, _)] [] ?_ (Sub.cons rfl (Sub.cons rfl (Sub.cons rfl (Sub.nil _)))) (MSub.nil _) ?_
    · skip
      exact ⟨Nat.zero_le _, rfl⟩
    · skip
      rintro k ⟨hk, ht⟩
      refine W_weaken (l' := [(0, _), (1, _), (5, _)]) (Sub.cons rfl (Sub.cons rfl (Sub.cons rfl (Sub.nil _)))) (M' := []) (MSub.nil _) ?_
      refine W_seq ?_
      refine W_seq ?_
      refine W_region ?_
      refine L_move rfl rfl ?_
      refine L_move rfl rfl ?_
      refine L_lenS rfl rfl el114 ?_
      refine L_binV rfl rfl rfl bv_lss ?_
      refine L_nil ?_
      refine W_weaken (l' := [(0, _), (1, _), (5, _), (14, _)]) (Sub.cons rfl (Sub.cons rfl (Sub.cons rfl (Sub.cons rfl (Sub.nil _))))) (MSub.refl _) ?_
      refine W_cond rfl (fun hc4 => ?_) (fun hc4 => ?_)
      · skip
        have hk1 : k < x1.length := by simpa using hc4
        obtain ⟨g1, o1, rfl⟩ := rd_addr h1 hk1
        obtain ⟨g2, o2, rfl⟩ := rd_addr (k := k) h2 (show k < x2.length by omega)
        obtain ⟨u1, hu1⟩ := getEl hk1
        obtain ⟨u2, hu2⟩ := getEl (show k < x2.length by omega)
        refine W_skip ?_
        refine W_seq ?_
        refine W_block ?_
        refine W_seq ?_
        refine W_D0 [26] mix (by kernel_rfl) rfl ?_
        refine D_move GC.none (OpV.t rfl) ?_
        refine D_move GC.none (OpV.t rfl) ?_
        refine D_indexAddr _ GC.none (OpV.t rfl) (OpV.t rfl) el114 (fun hg => ⟨rfl, by (try dsimp only); omega⟩) ?_
        refine D_loadW GC.none (OpV.t rfl) (fun hg => (by first | exact RdC.blk (by repeat (first | exact List.Mem.head _ | apply List.Mem.tail)) | exact RdC.old (Cells.el h1 rfl hu1) | exact RdC.old (Cells.el h2 rfl hu2))) (by exact agg267) ?_
        refine D_move GC.none (OpV.t rfl) ?_
        refine D_move GC.none (OpV.t rfl) ?_
        refine D_indexAddr _ GC.none (OpV.t rfl) (OpV.t rfl) el114 (fun hg => ⟨rfl, by (try dsimp only); omega⟩) ?_
        refine D_loadW GC.none (OpV.t rfl) (fun hg => (by first | exact RdC.blk (by repeat (first | exact List.Mem.head _ | apply List.Mem.tail)) | exact RdC.old (Cells.el h1 rfl hu1) | exact RdC.old (Cells.el h2 rfl hu2))) (by exact agg267) ?_
        refine D_callX GC.none fn234 (OpVs.cons (OpV.t rfl) (OpVs.cons (OpV.t rfl) (OpVs.nil))) (by exact fun hg w F hF hM => (fun w hw => eqInst_spec w _ _ (rd_carry (h1.2.2.1 _ (List.mem_of_getElem? hu1)) hw) (rd_carry (h2.2.2.1 _ (List.mem_of_getElem? hu2)) hw)) w hF) ?_
        refine D_not GC.none (OpV.t rfl) ?_
        refine DV_nil ?_
        refine Give_is rfl rfl ?_
        refine Give_drop rfl ?_
        refine Give_drop rfl ?_
        refine Give_drop rfl ?_
        refine Give_drop rfl ?_
        refine Give_drop rfl ?_
        refine Give_drop rfl ?_
        refine Give_drop rfl ?_
        refine Give_drop rfl ?_
        refine Give_drop rfl ?_
        refine Give_nil ?_
        refine W_weaken (l' := [(0, _), (1, _), (5, _), (26, _)]) (Sub.cons rfl (Sub.cons rfl (Sub.cons rfl (Sub.cons rfl (Sub.nil _))))) (MSub.refl _) ?_
        refine W_cond rfl (fun hc6 => ?_) (fun hc6 => ?_)
        · skip
          refine W_seq ?_
          refine W_region ?_
          refine L_assign rfl rfl ?_
          refine L_nil ?_
          refine W_ret ?_
          -- return 2 (R7)
          refine res1 rfl (ResOK.tmp rfl) ⟨?_, rfl⟩ (MSub.nil _)
          refine congrArg Value.bool (Eq.symm (eqB_false.2 fun e => ?_))
          simp at hc6
          replace e : x1.map GT.dat = x2.map GT.dat := e
          have e2 := congrArg (fun l => l[k]?) e
          simp only [List.getElem?_map, hu1, hu2, Option.map_some, Option.some.injEq] at e2
          exact hc6 (by simpa [dat_int, dat_str, dat_bool] using e2)
        · skip
          refine W_skip ?_
          refine W_region ?_
          refine L_move rfl rfl ?_
          refine L_binV rfl rfl rfl (bv_addR (by unfold inR; omega)) ?_
          refine L_assign rfl rfl ?_
          refine L_nil ?_
          refine ⟨k + 1, (Sub.cons rfl (Sub.cons rfl (Sub.cons rfl (Sub.nil _)))), (MSub.nil _), ?_, ?_⟩
          · skip
            exact ⟨by omega, take_succ_eq ht (by rw [List.getElem?_map, hu1]; rfl) (by rw [List.getElem?_map, hu2]; rfl) (by simpa [dat_int, dat_str, dat_bool] using hc6)⟩
          · skip
            (try dsimp only); omega
      · skip
        refine W_exit ?_
        refine W_seq ?_
        refine W_region ?_
        refine L_assign rfl rfl ?_
        refine L_nil ?_
        refine W_ret ?_
        -- return 3 (R8)
        refine res1 rfl (ResOK.tmp rfl) ⟨?_, rfl⟩ (MSub.nil _)
        refine congrArg Value.bool (Eq.symm (eqB_true.2 ?_))
        have hk2 : x1.length ≤ k := by simpa using hc4
        have h3 := ht
        rw [List.take_of_length_le (by simp; omega), List.take_of_length_le (by simp; omega)] at h3
        exact h3

theorem szInstS_spec (w : World) (t1 : TL T_Inst) (left : Int) (hl : 0 ≤ left) (hm : left ≤ 1048576) (h1 : GT.rd w [] t1) (ho : Ok.ok (GT.dat t1)) : Spec Try.prog 160 [t1.hdr, .int .i64 left].toArray w [] (IsV (.int .i64 (if (Bk.bulk t1 : Int) ≤ left then left - (Bk.bulk t1 : Int) else -1))) := by
  obtain ⟨a1, c1, e1, x1, y1⟩ := t1
  have hm1 : x1.length ≤ 9223372036854775807 := rd_len h1
  rw [bulk_TL]
  dsimp only [TL.hdr]
  refine Spec.intro Try.func160 rfl Try.ntmps160 rfl ?_
  refine W_seq ?_
  refine W_region ?_
  refine L_assign rfl rfl ?_
  refine L_nil ?_
  refine W_seq ?_
  refine W_region ?_
  refine L_move rfl rfl ?_
  refine L_move rfl rfl ?_
  refine L_lenS rfl rfl el109 ?_
  refine L_binV rfl rfl rfl (bv_subR (by unfold inR; omega)) ?_
  refine L_assign rfl rfl ?_
  refine L_nil ?_
  refine W_seq ?_
  refine W_seq ?_
  refine W_region ?_
  refine L_move rfl rfl ?_
  refine L_binV rfl rfl rfl bv_lss ?_
  refine L_nil ?_
  refine W_weaken (l' := [(0, _), (1, _), (11, _)]) (Sub.cons rfl (Sub.cons rfl (Sub.cons rfl (Sub.nil _)))) (MSub.refl _) ?_
  refine W_cond rfl (fun hc2 => ?_) (fun hc2 => ?_)
  · skip
    have hb0 : left - (x1.length : Int) < 0 := by simpa using hc2
    refine W_seq ?_
    refine W_region ?_
    refine L_assign rfl rfl ?_
    refine L_nil ?_
    refine W_ret ?_
    -- return 1 (R3)
    refine res1 rfl (ResOK.tmp rfl) ⟨?_, rfl⟩ (MSub.nil _)
    first
      | (rw [if_neg (by simp only [Int.natCast_add]; omega)]; done)
      | (rw [if_neg (by have := bulks_take_le x1 (k + 1); simp only [Int.natCast_add]; omega)]; done)
      | (have hk2 : x1.length ≤ k := by simpa using hc5
         rw [List.take_of_length_le hk2] at ht ⊢
         rw [if_pos (by simp only [Int.natCast_add]; omega)]; congr 1; simp only [Int.natCast_add]; omega)
  · skip
    have hb0 : ¬ (left - (x1.length : Int) < 0) := by simpa using hc2
    refine W_skip ?_
    refine W_seq ?_
    refine W_seq ?_
    refine W_region ?_
    refine L_assign rfl rfl ?_
    refine L_nil ?_
    refine W_block ?_
    have h0 : left - (x1.length : Int) = left - (x1.length : Int) - (bulks (x1.take 0) : Int) := by simp [bulks]
    rw [h0]
    refine W_loopC (σ := Nat) 0 (fun (k : Nat) => [(1, .int .i64 (left - (x1.length : Int) - (bulks (x1.take k) : Int))), (5, .int .i64 (k : Int))]) (fun (k : Nat) => []) (fun (k : Nat) => k ≤ x1.length ∧ 0 ≤ (left - (x1.length : Int) - (bulks (x1.take k) : Int))) (fun (k : Nat) => x1.length - k) [(0, _)] [] ?_ (Sub.cons rfl (Sub.cons rfl (Sub.cons rfl (Sub.nil _)))) (MSub.nil _) ?_
    · skip
      exact ⟨Nat.zero_le _, by simp [bulks]; omega⟩
    · skip
      rintro k ⟨hk, ht⟩
      refine W_weaken (l' := [(0, _), (1, _), (5, _)]) (Sub.cons rfl (Sub.cons rfl (Sub.cons rfl (Sub.nil _)))) (M' := []) (MSub.nil _) ?_
      refine W_seq ?_
      refine W_seq ?_
      refine W_region ?_
      refine L_move rfl rfl ?_
      refine L_move rfl rfl ?_
      refine L_lenS rfl rfl el109 ?_
      refine L_binV rfl rfl rfl bv_lss ?_
      refine L_nil ?_
      refine W_weaken (l' := [(0, _), (1, _), (5, _), (15, _)]) (Sub.cons rfl (Sub.cons rfl (Sub.cons rfl (Sub.cons rfl (Sub.nil _))))) (MSub.refl _) ?_
      refine W_cond rfl (fun hc5 => ?_) (fun hc5 => ?_)
      · skip
        have hk1 : k < x1.length := by simpa using hc5
        obtain ⟨g1, o1, rfl⟩ := rd_addr h1 hk1
        obtain ⟨u1, hu1⟩ := getEl hk1
        have hbs := bulks_take_succ hu1
        have hble := bulks_take_le x1 (k + 1)
        refine W_skip ?_
        refine W_seq ?_
        refine W_block ?_
        refine W_seq ?_
        refine W_region ?_
        refine L_move rfl rfl ?_
        refine L_move rfl rfl ?_
        refine L_indexAddr rfl rfl rfl el109 rfl (by omega) ?_
        refine L_loadW rfl rfl (by first | exact RdC.blk (by repeat (first | exact List.Mem.head _ | apply List.Mem.tail)) | exact RdC.old (Cells.el h1 rfl hu1)) (by exact agg259) ?_
        refine L_move rfl rfl ?_
        refine L_callX rfl fn220 rfl (by exact fun w hw => szInst_spec w _ _ (by omega) (by omega) (rd_carry (h1.2.2.1 _ (List.mem_of_getElem? hu1)) hw) (ho.2 _ (List.mem_map.2 ⟨u1, List.mem_of_getElem? hu1, rfl⟩))) ?_
        refine L_assign rfl rfl ?_
        refine L_nil ?_
        refine W_seq ?_
        refine W_region ?_
        refine L_move rfl rfl ?_
        refine L_binV rfl rfl rfl bv_lss ?_
        refine L_nil ?_
        refine W_weaken (l' := [(0, _), (1, _), (5, _), (25, _)]) (Sub.cons rfl (Sub.cons rfl (Sub.cons rfl (Sub.cons rfl (Sub.nil _))))) (MSub.refl _) ?_
        refine W_cond rfl (fun hc8 => ?_) (fun hc8 => ?_)
        · skip
          have hb1 : ¬ ((Bk.bulk u1 : Int) ≤ (left - (x1.length : Int) - (bulks (x1.take k) : Int))) := by
            intro hn
            rw [if_pos hn] at hc8; simp at hc8; omega
          refine W_seq ?_
          refine W_region ?_
          refine L_assign rfl rfl ?_
          refine L_nil ?_
          refine W_ret ?_
          -- return 2 (R9)
          refine res1 rfl (ResOK.tmp rfl) ⟨?_, rfl⟩ (MSub.nil _)
          first
            | (rw [if_neg (by simp only [Int.natCast_add]; omega)]; done)
            | (rw [if_neg (by have := bulks_take_le x1 (k + 1); simp only [Int.natCast_add]; omega)]; done)
            | (have hk2 : x1.length ≤ k := by simpa using hc5
               rw [List.take_of_length_le hk2] at ht ⊢
               rw [if_pos (by simp only [Int.natCast_add]; omega)]; congr 1; simp only [Int.natCast_add]; omega)
        · skip
          have hb1 : (Bk.bulk u1 : Int) ≤ (left - (x1.length : Int) - (bulks (x1.take k) : Int)) := by
            rcases Int.decLt (left - (x1.length : Int) - (bulks (x1.take k) : Int)) (Bk.bulk u1 : Int) with hn | hn
            · omega
            · rw [if_neg (by omega)] at hc8; simp at hc8
          rw [if_pos hb1]
          have hnx : (left - (x1.length : Int) - (bulks (x1.take k) : Int)) - (Bk.bulk u1 : Int) = left - (x1.length : Int) - (bulks (x1.take (k + 1)) : Int) := by rw [hbs]; omega
          rw [hnx]
          refine W_skip ?_
          refine W_region ?_
          refine L_move rfl rfl ?_
          refine L_binV rfl rfl rfl (bv_addR (by unfold inR; omega)) ?_
          refine L_assign rfl rfl ?_
          refine L_nil ?_
          refine ⟨k + 1, (Sub.cons rfl (Sub.cons rfl (Sub.cons rfl (Sub.nil _)))), (MSub.nil _), ?_, ?_⟩
          · skip
            exact ⟨by omega, by omega⟩
          · skip
            (try dsimp only); omega
      · skip
        refine W_exit ?_
        refine W_seq ?_
        refine W_region ?_
        refine L_move rfl rfl ?_
        refine L_assign rfl rfl ?_
        refine L_nil ?_
        refine W_ret ?_
        -- return 3 (R10)
        refine res1 rfl (ResOK.tmp rfl) ⟨?_, rfl⟩ (MSub.nil _)
        first
          | (rw [if_neg (by simp only [Int.natCast_add]; omega)]; done)
          | (rw [if_neg (by have := bulks_take_le x1 (k + 1); simp only [Int.natCast_add]; omega)]; done)
          | (have hk2 : x1.length ≤ k := by simpa using hc5
             rw [List.take_of_length_le hk2] at ht ⊢
             rw [if_pos (by simp only [Int.natCast_add]; omega)]; congr 1; simp only [Int.natCast_add]; omega)

theorem toInstS_spec (w : World) (t1 : TL T_Inst) (h1 : GT.rd w [] t1) (hb : Bk.bulk t1 ≤ 1048576) : Spec Try.prog 164 [t1.hdr].toArray w [] (fun v M => ∃ t2 : TL T_Inst, v = t2.hdr ∧ GT.dat t2 = GT.dat t1 ∧ M = [treeH t2]) := by
  obtain ⟨a1, c1, e1, x1, y1⟩ := t1
  rw [bulk_TL] at hb
  dsimp only [TL.hdr]
  refine Spec.intro Try.func164 rfl Try.ntmps164 rfl ?_
  refine W_seq ?_
  refine W_region ?_
  refine L_assign rfl rfl ?_
  refine L_nil ?_
  refine W_seq ?_
  refine W_region ?_
  refine L_move rfl rfl ?_
  refine L_lenS rfl rfl el109 ?_
  refine L_make (τ := T_Inst) (((0 : Int), (0 : Int)), (0 : Int), (0 : Int), (0 : Int), ((0 : Int), (0 : Int), (0 : Int), ByteArray.empty, ByteArray.empty, ByteArray.empty, (0 : Int), (TL.nil ByteArray 0)), (0 : Int), (TL.nil T_Id 0), false) rfl rfl rfl el114 rfl rfl (flat_pair (flat_pair (flat_int trivial) (flat_int trivial)) (flat_pair (flat_int trivial) (flat_pair (flat_int trivial) (flat_pair (flat_int trivial) (flat_pair (flat_pair (flat_int trivial) (flat_pair (flat_int trivial) (flat_pair (flat_int trivial) (flat_pair (flat_str trivial) (flat_pair (flat_str trivial) (flat_pair (flat_str trivial) (flat_pair (flat_int trivial) (flat_nil 0)))))))) (flat_pair (flat_int trivial) (flat_pair (flat_nil 0) (flat_bool _)))))))) (by omega) (by unfold maxLen; omega) (fun g => ?_)
  refine L_assign rfl rfl ?_
  refine L_nil ?_
  refine W_seq ?_
  refine W_seq ?_
  refine W_region ?_
  refine L_assign rfl rfl ?_
  refine L_nil ?_
  refine W_block ?_
  refine W_loopC (σ := Nat × List T_Inst) (0, List.replicate x1.length (((0 : Int), (0 : Int)), (0 : Int), (0 : Int), (0 : Int), ((0 : Int), (0 : Int), (0 : Int), ByteArray.empty, ByteArray.empty, ByteArray.empty, (0 : Int), (TL.nil ByteArray 0)), (0 : Int), (TL.nil T_Id 0), false)) (fun (p : Nat × List T_Inst) => [(4, .int .i64 (p.1 : Int))]) (fun (p : Nat × List T_Inst) => [treeH (⟨some ⟨g, 0, none⟩, x1.length, 267, p.2, []⟩ : TL T_Inst)]) (fun (p : Nat × List T_Inst) => p.1 ≤ x1.length ∧ p.2.length = x1.length ∧ (p.2.take p.1).map GT.dat = (x1.take p.1).map GT.dat) (fun (p : Nat × List T_Inst) => x1.length - p.1) [(0, _), (3, _)] [] ?_ (Sub.cons rfl (Sub.cons rfl (Sub.cons rfl (Sub.nil _)))) (MSub.cons (by repeat (first | exact Pick.here _ | apply Pick.there)) (MSub.nil _)) ?_
  · skip
    exact ⟨Nat.zero_le _, by simp, by simp⟩
  · skip
    rintro ⟨k, cur⟩ ⟨hk, hlen, hdat⟩
    dsimp only at hk hlen hdat
    refine W_weaken (l' := [(0, _), (3, _), (4, _)]) (Sub.cons rfl (Sub.cons rfl (Sub.cons rfl (Sub.nil _)))) (M' := [_]) (MSub.cons (by repeat (first | exact Pick.here _ | apply Pick.there)) (MSub.nil _)) ?_
    refine W_seq ?_
    refine W_seq ?_
    refine W_region ?_
    refine L_move rfl rfl ?_
    refine L_move rfl rfl ?_
    refine L_lenS rfl rfl el109 ?_
    refine L_binV rfl rfl rfl bv_lss ?_
    refine L_nil ?_
    refine W_weaken (l' := [(0, _), (3, _), (4, _), (11, _)]) (Sub.cons rfl (Sub.cons rfl (Sub.cons rfl (Sub.cons rfl (Sub.nil _))))) (MSub.refl _) ?_
    refine W_cond rfl (fun hc3 => ?_) (fun hc3 => ?_)
    · skip
      have hk1 : k < x1.length := by simpa using hc3
      obtain ⟨g1, o1, rfl⟩ := rd_addr h1 hk1
      obtain ⟨u1, hu1⟩ := getEl hk1
      have hub : Bk.bulk u1 ≤ 1048576 := by have := bulk_mem (List.mem_of_getElem? hu1); omega
      refine W_skip ?_
      refine W_seq ?_
      refine W_block ?_
      refine W_region ?_
      refine L_move rfl rfl ?_
      refine L_move rfl rfl ?_
      refine L_move rfl rfl ?_
      refine L_move rfl rfl ?_
      refine L_indexAddr rfl rfl rfl el109 rfl (by omega) ?_
      refine L_loadW rfl rfl (by first | exact RdC.blk (by repeat (first | exact List.Mem.head _ | apply List.Mem.tail)) | exact RdC.old (Cells.el h1 rfl hu1)) (by exact agg259) ?_
      refine L_callR rfl fn226 rfl (by exact fun w hw => toInst_spec w _ (rd_carry (h1.2.2.1 _ (List.mem_of_getElem? hu1)) hw) hub) ?_
      rintro v M1 ⟨u2, hv, hd, rfl⟩
      subst hv
      simp only [List.cons_append, List.nil_append]
      refine L_indexAddr rfl rfl rfl el114 rfl (by omega) ?_
      obtain ⟨u0, hu0⟩ := getEl (show k < cur.length by omega)
      refine L_storeEl u2 rfl rfl (by repeat (first | exact Pick.here _ | apply Pick.there)) rfl hu0 rfl (by repeat (first | exact Pick.here _ | apply Pick.there)) (.inl agg267) ?_
      refine L_nil ?_
      refine W_region ?_
      refine L_move rfl rfl ?_
      refine L_binV rfl rfl rfl (bv_addR (by unfold inR; omega)) ?_
      refine L_assign rfl rfl ?_
      refine L_nil ?_
      refine ⟨(k + 1, cur.set k u2), (Sub.cons rfl (Sub.cons rfl (Sub.cons rfl (Sub.nil _)))), (MSub.cons (by repeat (first | exact Pick.here _ | apply Pick.there)) (MSub.nil _)), ?_, ?_⟩
      · skip
        exact ⟨by dsimp only; omega, by simpa using hlen, map_take_set GT.dat GT.dat hdat (by omega) hu1 hd⟩
      · skip
        dsimp only; omega
    · skip
      refine W_exit ?_
      refine W_seq ?_
      refine W_region ?_
      refine L_move rfl rfl ?_
      refine L_assign rfl rfl ?_
      refine L_nil ?_
      refine W_ret ?_
      -- return 1 (R6)
      refine res1 rfl (ResOK.tmp rfl) ⟨⟨some ⟨g, 0, none⟩, x1.length, 267, cur, []⟩, ?_, ?_, rfl⟩ (MSub.cons (by repeat (first | exact Pick.here _ | apply Pick.there)) (MSub.nil _))
      · show _ = Value.slice _ cur.length _
        rw [hlen]
      · have hk2 : x1.length ≤ k := by simpa using hc3
        rw [List.take_of_length_le (by omega), List.take_of_length_le (by omega)] at hdat
        exact hdat

set_option maxHeartbeats 4000000 in
theorem markInstS_spec (w : World) (t1 : TL T_Inst) (k0 : Nat) (hk0 : 0 < k0) (hb : k0 + Mk.cnt t1 < 9223372036854775807) : Spec Try.prog 170 [t1.hdr, .int .i64 (k0 : Int)].toArray w [treeH t1] (fun v M => v = .int .i64 ((k0 + Mk.cnt t1 : Nat) : Int) ∧ M = [treeH (Mk.mkd k0 t1)]) := by
  obtain ⟨a1, c1, e1, x1, y1⟩ := t1
  replace hb : k0 + cnts x1 < 9223372036854775807 := hb
  dsimp only [TL.hdr]
  refine Spec.intro Try.func170 rfl Try.ntmps170 rfl ?_
  refine W_fact (fun w h => ow_facts (h.prs _ (List.mem_cons_self ..))) fun hF => ?_
  replace hF : x1.length ≤ 9223372036854775807 ∧ (0 < x1.length → ∃ g, a1 = some ⟨g, 0, none⟩) := hF
  refine W_seq ?_
  refine W_region ?_
  refine L_assign rfl rfl ?_
  refine L_nil ?_
  refine W_seq ?_
  refine W_seq ?_
  refine W_region ?_
  refine L_assign rfl rfl ?_
  refine L_nil ?_
  refine W_block ?_
  refine W_conv (M' := [treeH (⟨a1, c1, e1, half k0 0 x1, y1⟩ : TL T_Inst)]) (fun w h => by rw [half_zero]; exact h) ?_
  refine W_loopC (σ := Nat) 0 (fun (i : Nat) => [(1, .int .i64 ((k0 + cnts (x1.take i) : Nat) : Int)), (5, .int .i64 (i : Int))]) (fun (i : Nat) => [treeH (⟨a1, c1, e1, half k0 i x1, y1⟩ : TL T_Inst)]) (fun (i : Nat) => i ≤ x1.length) (fun (i : Nat) => x1.length - i) [(0, _)] [] ?_ (Sub.cons rfl (Sub.cons rfl (Sub.cons rfl (Sub.nil _)))) (MSub.cons (by repeat (first | exact Pick.here _ | apply Pick.there)) (MSub.nil _)) ?_
  · skip
    exact Nat.zero_le _
  · skip
    rintro i hi
    refine W_weaken (l' := [(0, _), (1, _), (5, _)]) (Sub.cons rfl (Sub.cons rfl (Sub.cons rfl (Sub.nil _)))) (M' := [_]) (MSub.cons (by repeat (first | exact Pick.here _ | apply Pick.there)) (MSub.nil _)) ?_
    refine W_seq ?_
    refine W_seq ?_
    refine W_region ?_
    refine L_move rfl rfl ?_
    refine L_move rfl rfl ?_
    refine L_lenS rfl rfl el114 ?_
    refine L_binV rfl rfl rfl bv_lss ?_
    refine L_nil ?_
    refine W_weaken (l' := [(0, _), (1, _), (5, _), (9, _)]) (Sub.cons rfl (Sub.cons rfl (Sub.cons rfl (Sub.cons rfl (Sub.nil _))))) (MSub.refl _) ?_
    refine W_cond rfl (fun hc2 => ?_) (fun hc2 => ?_)
    · skip
      have hk1 : i < x1.length := by simpa using hc2
      obtain ⟨g, rfl⟩ := hF.2 (by omega)
      obtain ⟨u, hu⟩ := getEl hk1
      have hs := cnts_take_succ hu
      have hle := cnts_take_le x1 (i + 1)
      have hlh := half_length k0 i x1
      obtain ⟨⟨b11, b12⟩, b2, b3, b4, ⟨b51, b52, b53, b54, b55, b56, b57, b58⟩, b6, b7, b8⟩ := u
      simp only [cnt_pair, cnt_int, cnt_str, cnt_bool] at hs
      refine W_skip ?_
      refine W_seq ?_
      refine W_block ?_
      refine W_seq ?_
      refine W_region ?_
      refine L_move rfl rfl ?_
      refine L_move rfl rfl ?_
      refine L_move rfl rfl ?_
      refine L_indexAddr rfl rfl rfl el114 rfl (by omega) ?_
      refine L_fieldAddr rfl rfl fld267_0 ?_
      refine L_fieldAddr rfl rfl fld264_0 ?_
      refine L_storeElF (fo := 0) (x' := ((((((k0 + cnts (x1.take i)) : Nat) : Int), b12), b2, b3, b4, (b51, b52, b53, b54, b55, b56, b57, b58), b6, b7, b8) : T_Inst)) rfl rfl (by repeat (first | exact Pick.here _ | apply Pick.there)) rfl (show ((half k0 i x1) : List T_Inst)[i]? = some (((b11, b12), b2, b3, b4, (b51, b52, b53, b54, b55, b56, b57, b58), b6, b7, b8) : T_Inst) from half_get (k := k0) hu) rfl rfl (by decide) rfl (fun w h => by exact ⟨⟨(by exact trivial), h.1.2⟩, h.2.1, h.2.2.1, h.2.2.2.1, ⟨h.2.2.2.2.1.1, h.2.2.2.2.1.2.1, h.2.2.2.2.1.2.2.1, h.2.2.2.2.1.2.2.2.1, h.2.2.2.2.1.2.2.2.2.1, h.2.2.2.2.1.2.2.2.2.2.1, h.2.2.2.2.1.2.2.2.2.2.2.1, h.2.2.2.2.1.2.2.2.2.2.2.2⟩, h.2.2.2.2.2.1, h.2.2.2.2.2.2.1, h.2.2.2.2.2.2.2⟩) one3 ?_
      refine L_nil ?_
      refine W_seq ?_
      refine W_region ?_
      refine L_move rfl rfl ?_
      refine L_binV rfl rfl rfl (bv_addR (by unfold inR; omega)) ?_
      refine L_assign rfl rfl ?_
      refine L_nil ?_
      rw [show (((k0 + cnts (x1.take i)) : Nat) : Int) + 1 = (((k0 + cnts (x1.take i)) + 1 : Nat) : Int) from rfl]
      refine W_seq ?_
      refine W_region ?_
      refine L_move rfl rfl ?_
      refine L_move rfl rfl ?_
      refine L_move rfl rfl ?_
      refine L_indexAddr rfl rfl rfl el114 rfl (by omega) ?_
      refine L_fieldAddr rfl rfl fld267_0 ?_
      refine L_fieldAddr rfl rfl fld264_1 ?_
      refine L_storeElF (fo := 1) (x' := ((((((k0 + cnts (x1.take i)) : Nat) : Int), ((((k0 + cnts (x1.take i)) + 1) : Nat) : Int)), b2, b3, b4, (b51, b52, b53, b54, b55, b56, b57, b58), b6, b7, b8) : T_Inst)) rfl rfl (by repeat (first | exact Pick.here _ | apply Pick.there)) rfl (show (((half k0 i x1).set i ((((((k0 + cnts (x1.take i)) : Nat) : Int), b12), b2, b3, b4, (b51, b52, b53, b54, b55, b56, b57, b58), b6, b7, b8) : T_Inst)) : List T_Inst)[i]? = some ((((((k0 + cnts (x1.take i)) : Nat) : Int), b12), b2, b3, b4, (b51, b52, b53, b54, b55, b56, b57, b58), b6, b7, b8) : T_Inst) from set_get (half_get (k := k0) hu)) rfl rfl (by decide) rfl (fun w h => by exact ⟨⟨h.1.1, (by exact trivial)⟩, h.2.1, h.2.2.1, h.2.2.2.1, ⟨h.2.2.2.2.1.1, h.2.2.2.2.1.2.1, h.2.2.2.2.1.2.2.1, h.2.2.2.2.1.2.2.2.1, h.2.2.2.2.1.2.2.2.2.1, h.2.2.2.2.1.2.2.2.2.2.1, h.2.2.2.2.1.2.2.2.2.2.2.1, h.2.2.2.2.1.2.2.2.2.2.2.2⟩, h.2.2.2.2.2.1, h.2.2.2.2.2.2.1, h.2.2.2.2.2.2.2⟩) one3 ?_
      refine L_nil ?_
      refine W_seq ?_
      refine W_region ?_
      refine L_move rfl rfl ?_
      refine L_binV rfl rfl rfl (bv_addR (by unfold inR; omega)) ?_
      refine L_assign rfl rfl ?_
      refine L_nil ?_
      rw [show ((((k0 + cnts (x1.take i)) + 1) : Nat) : Int) + 1 = ((((k0 + cnts (x1.take i)) + 1) + 1 : Nat) : Int) from rfl]
      refine W_seq ?_
      refine W_region ?_
      refine L_move rfl rfl ?_
      refine L_move rfl rfl ?_
      refine L_move rfl rfl ?_
      refine L_indexAddr rfl rfl rfl el114 rfl (by omega) ?_
      refine L_fieldAddr rfl rfl fld267_1 ?_
      refine L_storeElF (fo := 2) (x' := ((((((k0 + cnts (x1.take i)) : Nat) : Int), ((((k0 + cnts (x1.take i)) + 1) : Nat) : Int)), (((((k0 + cnts (x1.take i)) + 1) + 1) : Nat) : Int), b3, b4, (b51, b52, b53, b54, b55, b56, b57, b58), b6, b7, b8) : T_Inst)) rfl rfl (by repeat (first | exact Pick.here _ | apply Pick.there)) rfl (show ((((half k0 i x1).set i ((((((k0 + cnts (x1.take i)) : Nat) : Int), b12), b2, b3, b4, (b51, b52, b53, b54, b55, b56, b57, b58), b6, b7, b8) : T_Inst)).set i ((((((k0 + cnts (x1.take i)) : Nat) : Int), ((((k0 + cnts (x1.take i)) + 1) : Nat) : Int)), b2, b3, b4, (b51, b52, b53, b54, b55, b56, b57, b58), b6, b7, b8) : T_Inst)) : List T_Inst)[i]? = some ((((((k0 + cnts (x1.take i)) : Nat) : Int), ((((k0 + cnts (x1.take i)) + 1) : Nat) : Int)), b2, b3, b4, (b51, b52, b53, b54, b55, b56, b57, b58), b6, b7, b8) : T_Inst) from set_get (set_get (half_get (k := k0) hu))) rfl rfl (by decide) rfl (fun w h => by exact ⟨⟨h.1.1, h.1.2⟩, (by exact trivial), h.2.2.1, h.2.2.2.1, ⟨h.2.2.2.2.1.1, h.2.2.2.2.1.2.1, h.2.2.2.2.1.2.2.1, h.2.2.2.2.1.2.2.2.1, h.2.2.2.2.1.2.2.2.2.1, h.2.2.2.2.1.2.2.2.2.2.1, h.2.2.2.2.1.2.2.2.2.2.2.1, h.2.2.2.2.1.2.2.2.2.2.2.2⟩, h.2.2.2.2.2.1, h.2.2.2.2.2.2.1, h.2.2.2.2.2.2.2⟩) one3 ?_
      refine L_nil ?_
      refine W_seq ?_
      refine W_region ?_
      refine L_move rfl rfl ?_
      refine L_binV rfl rfl rfl (bv_addR (by unfold inR; omega)) ?_
      refine L_assign rfl rfl ?_
      refine L_nil ?_
      rw [show (((((k0 + cnts (x1.take i)) + 1) + 1) : Nat) : Int) + 1 = (((((k0 + cnts (x1.take i)) + 1) + 1) + 1 : Nat) : Int) from rfl]
      refine W_seq ?_
      refine W_region ?_
      refine L_move rfl rfl ?_
      refine L_move rfl rfl ?_
      refine L_move rfl rfl ?_
      refine L_indexAddr rfl rfl rfl el114 rfl (by omega) ?_
      refine L_fieldAddr rfl rfl fld267_2 ?_
      refine L_storeElF (fo := 3) (x' := ((((((k0 + cnts (x1.take i)) : Nat) : Int), ((((k0 + cnts (x1.take i)) + 1) : Nat) : Int)), (((((k0 + cnts (x1.take i)) + 1) + 1) : Nat) : Int), ((((((k0 + cnts (x1.take i)) + 1) + 1) + 1) : Nat) : Int), b4, (b51, b52, b53, b54, b55, b56, b57, b58), b6, b7, b8) : T_Inst)) rfl rfl (by repeat (first | exact Pick.here _ | apply Pick.there)) rfl (show (((((half k0 i x1).set i ((((((k0 + cnts (x1.take i)) : Nat) : Int), b12), b2, b3, b4, (b51, b52, b53, b54, b55, b56, b57, b58), b6, b7, b8) : T_Inst)).set i ((((((k0 + cnts (x1.take i)) : Nat) : Int), ((((k0 + cnts (x1.take i)) + 1) : Nat) : Int)), b2, b3, b4, (b51, b52, b53, b54, b55, b56, b57, b58), b6, b7, b8) : T_Inst)).set i ((((((k0 + cnts (x1.take i)) : Nat) : Int), ((((k0 + cnts (x1.take i)) + 1) : Nat) : Int)), (((((k0 + cnts (x1.take i)) + 1) + 1) : Nat) : Int), b3, b4, (b51, b52, b53, b54, b55, b56, b57, b58), b6, b7, b8) : T_Inst)) : List T_Inst)[i]? = some ((((((k0 + cnts (x1.take i)) : Nat) : Int), ((((k0 + cnts (x1.take i)) + 1) : Nat) : Int)), (((((k0 + cnts (x1.take i)) + 1) + 1) : Nat) : Int), b3, b4, (b51, b52, b53, b54, b55, b56, b57, b58), b6, b7, b8) : T_Inst) from set_get (set_get (set_get (half_get (k := k0) hu)))) rfl rfl (by decide) rfl (fun w h => by exact ⟨⟨h.1.1, h.1.2⟩, h.2.1, (by exact trivial), h.2.2.2.1, ⟨h.2.2.2.2.1.1, h.2.2.2.2.1.2.1, h.2.2.2.2.1.2.2.1, h.2.2.2.2.1.2.2.2.1, h.2.2.2.2.1.2.2.2.2.1, h.2.2.2.2.1.2.2.2.2.2.1, h.2.2.2.2.1.2.2.2.2.2.2.1, h.2.2.2.2.1.2.2.2.2.2.2.2⟩, h.2.2.2.2.2.1, h.2.2.2.2.2.2.1, h.2.2.2.2.2.2.2⟩) one3 ?_
      refine L_nil ?_
      refine W_seq ?_
      refine W_region ?_
      refine L_move rfl rfl ?_
      refine L_binV rfl rfl rfl (bv_addR (by unfold inR; omega)) ?_
      refine L_assign rfl rfl ?_
      refine L_nil ?_
      rw [show ((((((k0 + cnts (x1.take i)) + 1) + 1) + 1) : Nat) : Int) + 1 = ((((((k0 + cnts (x1.take i)) + 1) + 1) + 1) + 1 : Nat) : Int) from rfl]
      refine W_seq ?_
      refine W_region ?_
      refine L_move rfl rfl ?_
      refine L_move rfl rfl ?_
      refine L_move rfl rfl ?_
      refine L_indexAddr rfl rfl rfl el114 rfl (by omega) ?_
      refine L_fieldAddr rfl rfl fld267_3 ?_
      refine L_storeElF (fo := 4) (x' := ((((((k0 + cnts (x1.take i)) : Nat) : Int), ((((k0 + cnts (x1.take i)) + 1) : Nat) : Int)), (((((k0 + cnts (x1.take i)) + 1) + 1) : Nat) : Int), ((((((k0 + cnts (x1.take i)) + 1) + 1) + 1) : Nat) : Int), (((((((k0 + cnts (x1.take i)) + 1) + 1) + 1) + 1) : Nat) : Int), (b51, b52, b53, b54, b55, b56, b57, b58), b6, b7, b8) : T_Inst)) rfl rfl (by repeat (first | exact Pick.here _ | apply Pick.there)) rfl (show ((((((half k0 i x1).set i ((((((k0 + cnts (x1.take i)) : Nat) : Int), b12), b2, b3, b4, (b51, b52, b53, b54, b55, b56, b57, b58), b6, b7, b8) : T_Inst)).set i ((((((k0 + cnts (x1.take i)) : Nat) : Int), ((((k0 + cnts (x1.take i)) + 1) : Nat) : Int)), b2, b3, b4, (b51, b52, b53, b54, b55, b56, b57, b58), b6, b7, b8) : T_Inst)).set i ((((((k0 + cnts (x1.take i)) : Nat) : Int), ((((k0 + cnts (x1.take i)) + 1) : Nat) : Int)), (((((k0 + cnts (x1.take i)) + 1) + 1) : Nat) : Int), b3, b4, (b51, b52, b53, b54, b55, b56, b57, b58), b6, b7, b8) : T_Inst)).set i ((((((k0 + cnts (x1.take i)) : Nat) : Int), ((((k0 + cnts (x1.take i)) + 1) : Nat) : Int)), (((((k0 + cnts (x1.take i)) + 1) + 1) : Nat) : Int), ((((((k0 + cnts (x1.take i)) + 1) + 1) + 1) : Nat) : Int), b4, (b51, b52, b53, b54, b55, b56, b57, b58), b6, b7, b8) : T_Inst)) : List T_Inst)[i]? = some ((((((k0 + cnts (x1.take i)) : Nat) : Int), ((((k0 + cnts (x1.take i)) + 1) : Nat) : Int)), (((((k0 + cnts (x1.take i)) + 1) + 1) : Nat) : Int), ((((((k0 + cnts (x1.take i)) + 1) + 1) + 1) : Nat) : Int), b4, (b51, b52, b53, b54, b55, b56, b57, b58), b6, b7, b8) : T_Inst) from set_get (set_get (set_get (set_get (half_get (k := k0) hu))))) rfl rfl (by decide) rfl (fun w h => by exact ⟨⟨h.1.1, h.1.2⟩, h.2.1, h.2.2.1, (by exact trivial), ⟨h.2.2.2.2.1.1, h.2.2.2.2.1.2.1, h.2.2.2.2.1.2.2.1, h.2.2.2.2.1.2.2.2.1, h.2.2.2.2.1.2.2.2.2.1, h.2.2.2.2.1.2.2.2.2.2.1, h.2.2.2.2.1.2.2.2.2.2.2.1, h.2.2.2.2.1.2.2.2.2.2.2.2⟩, h.2.2.2.2.2.1, h.2.2.2.2.2.2.1, h.2.2.2.2.2.2.2⟩) one3 ?_
      refine L_nil ?_
      refine W_seq ?_
      refine W_region ?_
      refine L_move rfl rfl ?_
      refine L_binV rfl rfl rfl (bv_addR (by unfold inR; omega)) ?_
      refine L_assign rfl rfl ?_
      refine L_nil ?_
      rw [show (((((((k0 + cnts (x1.take i)) + 1) + 1) + 1) + 1) : Nat) : Int) + 1 = (((((((k0 + cnts (x1.take i)) + 1) + 1) + 1) + 1) + 1 : Nat) : Int) from rfl]
      refine W_seq ?_
      refine W_region ?_
      refine L_move rfl rfl ?_
      refine L_move rfl rfl ?_
      refine L_move rfl rfl ?_
      refine L_indexAddr rfl rfl rfl el114 rfl (by omega) ?_
      refine L_fieldAddr rfl rfl fld267_4 ?_
      refine L_fieldAddr rfl rfl fld129_0 ?_
      refine L_storeElF (fo := 5) (x' := ((((((k0 + cnts (x1.take i)) : Nat) : Int), ((((k0 + cnts (x1.take i)) + 1) : Nat) : Int)), (((((k0 + cnts (x1.take i)) + 1) + 1) : Nat) : Int), ((((((k0 + cnts (x1.take i)) + 1) + 1) + 1) : Nat) : Int), (((((((k0 + cnts (x1.take i)) + 1) + 1) + 1) + 1) : Nat) : Int), (((((((((k0 + cnts (x1.take i)) + 1) + 1) + 1) + 1) + 1) : Nat) : Int), b52, b53, b54, b55, b56, b57, b58), b6, b7, b8) : T_Inst)) rfl rfl (by repeat (first | exact Pick.here _ | apply Pick.there)) rfl (show (((((((half k0 i x1).set i ((((((k0 + cnts (x1.take i)) : Nat) : Int), b12), b2, b3, b4, (b51, b52, b53, b54, b55, b56, b57, b58), b6, b7, b8) : T_Inst)).set i ((((((k0 + cnts (x1.take i)) : Nat) : Int), ((((k0 + cnts (x1.take i)) + 1) : Nat) : Int)), b2, b3, b4, (b51, b52, b53, b54, b55, b56, b57, b58), b6, b7, b8) : T_Inst)).set i ((((((k0 + cnts (x1.take i)) : Nat) : Int), ((((k0 + cnts (x1.take i)) + 1) : Nat) : Int)), (((((k0 + cnts (x1.take i)) + 1) + 1) : Nat) : Int), b3, b4, (b51, b52, b53, b54, b55, b56, b57, b58), b6, b7, b8) : T_Inst)).set i ((((((k0 + cnts (x1.take i)) : Nat) : Int), ((((k0 + cnts (x1.take i)) + 1) : Nat) : Int)), (((((k0 + cnts (x1.take i)) + 1) + 1) : Nat) : Int), ((((((k0 + cnts (x1.take i)) + 1) + 1) + 1) : Nat) : Int), b4, (b51, b52, b53, b54, b55, b56, b57, b58), b6, b7, b8) : T_Inst)).set i ((((((k0 + cnts (x1.take i)) : Nat) : Int), ((((k0 + cnts (x1.take i)) + 1) : Nat) : Int)), (((((k0 + cnts (x1.take i)) + 1) + 1) : Nat) : Int), ((((((k0 + cnts (x1.take i)) + 1) + 1) + 1) : Nat) : Int), (((((((k0 + cnts (x1.take i)) + 1) + 1) + 1) + 1) : Nat) : Int), (b51, b52, b53, b54, b55, b56, b57, b58), b6, b7, b8) : T_Inst)) : List T_Inst)[i]? = some ((((((k0 + cnts (x1.take i)) : Nat) : Int), ((((k0 + cnts (x1.take i)) + 1) : Nat) : Int)), (((((k0 + cnts (x1.take i)) + 1) + 1) : Nat) : Int), ((((((k0 + cnts (x1.take i)) + 1) + 1) + 1) : Nat) : Int), (((((((k0 + cnts (x1.take i)) + 1) + 1) + 1) + 1) : Nat) : Int), (b51, b52, b53, b54, b55, b56, b57, b58), b6, b7, b8) : T_Inst) from set_get (set_get (set_get (set_get (set_get (half_get (k := k0) hu)))))) rfl rfl (by decide) rfl (fun w h => by exact ⟨⟨h.1.1, h.1.2⟩, h.2.1, h.2.2.1, h.2.2.2.1, ⟨(by exact trivial), h.2.2.2.2.1.2.1, h.2.2.2.2.1.2.2.1, h.2.2.2.2.1.2.2.2.1, h.2.2.2.2.1.2.2.2.2.1, h.2.2.2.2.1.2.2.2.2.2.1, h.2.2.2.2.1.2.2.2.2.2.2.1, h.2.2.2.2.1.2.2.2.2.2.2.2⟩, h.2.2.2.2.2.1, h.2.2.2.2.2.2.1, h.2.2.2.2.2.2.2⟩) one3 ?_
      refine L_nil ?_
      refine W_seq ?_
      refine W_region ?_
      refine L_move rfl rfl ?_
      refine L_binV rfl rfl rfl (bv_addR (by unfold inR; omega)) ?_
      refine L_assign rfl rfl ?_
      refine L_nil ?_
      rw [show ((((((((k0 + cnts (x1.take i)) + 1) + 1) + 1) + 1) + 1) : Nat) : Int) + 1 = ((((((((k0 + cnts (x1.take i)) + 1) + 1) + 1) + 1) + 1) + 1 : Nat) : Int) from rfl]
      refine W_seq ?_
      refine W_region ?_
      refine L_move rfl rfl ?_
      refine L_move rfl rfl ?_
      refine L_move rfl rfl ?_
      refine L_indexAddr rfl rfl rfl el114 rfl (by omega) ?_
      refine L_fieldAddr rfl rfl fld267_4 ?_
      refine L_fieldAddr rfl rfl fld129_1 ?_
      refine L_storeElF (fo := 6) (x' := ((((((k0 + cnts (x1.take i)) : Nat) : Int), ((((k0 + cnts (x1.take i)) + 1) : Nat) : Int)), (((((k0 + cnts (x1.take i)) + 1) + 1) : Nat) : Int), ((((((k0 + cnts (x1.take i)) + 1) + 1) + 1) : Nat) : Int), (((((((k0 + cnts (x1.take i)) + 1) + 1) + 1) + 1) : Nat) : Int), (((((((((k0 + cnts (x1.take i)) + 1) + 1) + 1) + 1) + 1) : Nat) : Int), (((((((((k0 + cnts (x1.take i)) + 1) + 1) + 1) + 1) + 1) + 1) : Nat) : Int), b53, b54, b55, b56, b57, b58), b6, b7, b8) : T_Inst)) rfl rfl (by repeat (first | exact Pick.here _ | apply Pick.there)) rfl (show ((((((((half k0 i x1).set i ((((((k0 + cnts (x1.take i)) : Nat) : Int), b12), b2, b3, b4, (b51, b52, b53, b54, b55, b56, b57, b58), b6, b7, b8) : T_Inst)).set i ((((((k0 + cnts (x1.take i)) : Nat) : Int), ((((k0 + cnts (x1.take i)) + 1) : Nat) : Int)), b2, b3, b4, (b51, b52, b53, b54, b55, b56, b57, b58), b6, b7, b8) : T_Inst)).set i ((((((k0 + cnts (x1.take i)) : Nat) : Int), ((((k0 + cnts (x1.take i)) + 1) : Nat) : Int)), (((((k0 + cnts (x1.take i)) + 1) + 1) : Nat) : Int), b3, b4, (b51, b52, b53, b54, b55, b56, b57, b58), b6, b7, b8) : T_Inst)).set i ((((((k0 + cnts (x1.take i)) : Nat) : Int), ((((k0 + cnts (x1.take i)) + 1) : Nat) : Int)), (((((k0 + cnts (x1.take i)) + 1) + 1) : Nat) : Int), ((((((k0 + cnts (x1.take i)) + 1) + 1) + 1) : Nat) : Int), b4, (b51, b52, b53, b54, b55, b56, b57, b58), b6, b7, b8) : T_Inst)).set i ((((((k0 + cnts (x1.take i)) : Nat) : Int), ((((k0 + cnts (x1.take i)) + 1) : Nat) : Int)), (((((k0 + cnts (x1.take i)) + 1) + 1) : Nat) : Int), ((((((k0 + cnts (x1.take i)) + 1) + 1) + 1) : Nat) : Int), (((((((k0 + cnts (x1.take i)) + 1) + 1) + 1) + 1) : Nat) : Int), (b51, b52, b53, b54, b55, b56, b57, b58), b6, b7, b8) : T_Inst)).set i ((((((k0 + cnts (x1.take i)) : Nat) : Int), ((((k0 + cnts (x1.take i)) + 1) : Nat) : Int)), (((((k0 + cnts (x1.take i)) + 1) + 1) : Nat) : Int), ((((((k0 + cnts (x1.take i)) + 1) + 1) + 1) : Nat) : Int), (((((((k0 + cnts (x1.take i)) + 1) + 1) + 1) + 1) : Nat) : Int), (((((((((k0 + cnts (x1.take i)) + 1) + 1) + 1) + 1) + 1) : Nat) : Int), b52, b53, b54, b55, b56, b57, b58), b6, b7, b8) : T_Inst)) : List T_Inst)[i]? = some ((((((k0 + cnts (x1.take i)) : Nat) : Int), ((((k0 + cnts (x1.take i)) + 1) : Nat) : Int)), (((((k0 + cnts (x1.take i)) + 1) + 1) : Nat) : Int), ((((((k0 + cnts (x1.take i)) + 1) + 1) + 1) : Nat) : Int), (((((((k0 + cnts (x1.take i)) + 1) + 1) + 1) + 1) : Nat) : Int), (((((((((k0 + cnts (x1.take i)) + 1) + 1) + 1) + 1) + 1) : Nat) : Int), b52, b53, b54, b55, b56, b57, b58), b6, b7, b8) : T_Inst) from set_get (set_get (set_get (set_get (set_get (set_get (half_get (k := k0) hu))))))) rfl rfl (by decide) rfl (fun w h => by exact ⟨⟨h.1.1, h.1.2⟩, h.2.1, h.2.2.1, h.2.2.2.1, ⟨h.2.2.2.2.1.1, (by exact trivial), h.2.2.2.2.1.2.2.1, h.2.2.2.2.1.2.2.2.1, h.2.2.2.2.1.2.2.2.2.1, h.2.2.2.2.1.2.2.2.2.2.1, h.2.2.2.2.1.2.2.2.2.2.2.1, h.2.2.2.2.1.2.2.2.2.2.2.2⟩, h.2.2.2.2.2.1, h.2.2.2.2.2.2.1, h.2.2.2.2.2.2.2⟩) one3 ?_
      refine L_nil ?_
      refine W_seq ?_
      refine W_region ?_
      refine L_move rfl rfl ?_
      refine L_binV rfl rfl rfl (bv_addR (by unfold inR; omega)) ?_
      refine L_assign rfl rfl ?_
      refine L_nil ?_
      rw [show (((((((((k0 + cnts (x1.take i)) + 1) + 1) + 1) + 1) + 1) + 1) : Nat) : Int) + 1 = (((((((((k0 + cnts (x1.take i)) + 1) + 1) + 1) + 1) + 1) + 1) + 1 : Nat) : Int) from rfl]
      refine W_seq ?_
      refine W_region ?_
      refine L_move rfl rfl ?_
      refine L_move rfl rfl ?_
      refine L_move rfl rfl ?_
      refine L_indexAddr rfl rfl rfl el114 rfl (by omega) ?_
      refine L_fieldAddr rfl rfl fld267_4 ?_
      refine L_fieldAddr rfl rfl fld129_2 ?_
      refine L_storeElF (fo := 7) (x' := ((((((k0 + cnts (x1.take i)) : Nat) : Int), ((((k0 + cnts (x1.take i)) + 1) : Nat) : Int)), (((((k0 + cnts (x1.take i)) + 1) + 1) : Nat) : Int), ((((((k0 + cnts (x1.take i)) + 1) + 1) + 1) : Nat) : Int), (((((((k0 + cnts (x1.take i)) + 1) + 1) + 1) + 1) : Nat) : Int), (((((((((k0 + cnts (x1.take i)) + 1) + 1) + 1) + 1) + 1) : Nat) : Int), (((((((((k0 + cnts (x1.take i)) + 1) + 1) + 1) + 1) + 1) + 1) : Nat) : Int), ((((((((((k0 + cnts (x1.take i)) + 1) + 1) + 1) + 1) + 1) + 1) + 1) : Nat) : Int), b54, b55, b56, b57, b58), b6, b7, b8) : T_Inst)) rfl rfl (by repeat (first | exact Pick.here _ | apply Pick.there)) rfl (show (((((((((half k0 i x1).set i ((((((k0 + cnts (x1.take i)) : Nat) : Int), b12), b2, b3, b4, (b51, b52, b53, b54, b55, b56, b57, b58), b6, b7, b8) : T_Inst)).set i ((((((k0 + cnts (x1.take i)) : Nat) : Int), ((((k0 + cnts (x1.take i)) + 1) : Nat) : Int)), b2, b3, b4, (b51, b52, b53, b54, b55, b56, b57, b58), b6, b7, b8) : T_Inst)).set i ((((((k0 + cnts (x1.take i)) : Nat) : Int), ((((k0 + cnts (x1.take i)) + 1) : Nat) : Int)), (((((k0 + cnts (x1.take i)) + 1) + 1) : Nat) : Int), b3, b4, (b51, b52, b53, b54, b55, b56, b57, b58), b6, b7, b8) : T_Inst)).set i ((((((k0 + cnts (x1.take i)) : Nat) : Int), ((((k0 + cnts (x1.take i)) + 1) : Nat) : Int)), (((((k0 + cnts (x1.take i)) + 1) + 1) : Nat) : Int), ((((((k0 + cnts (x1.take i)) + 1) + 1) + 1) : Nat) : Int), b4, (b51, b52, b53, b54, b55, b56, b57, b58), b6, b7, b8) : T_Inst)).set i ((((((k0 + cnts (x1.take i)) : Nat) : Int), ((((k0 + cnts (x1.take i)) + 1) : Nat) : Int)), (((((k0 + cnts (x1.take i)) + 1) + 1) : Nat) : Int), ((((((k0 + cnts (x1.take i)) + 1) + 1) + 1) : Nat) : Int), (((((((k0 + cnts (x1.take i)) + 1) + 1) + 1) + 1) : Nat) : Int), (b51, b52, b53, b54, b55, b56, b57, b58), b6, b7, b8) : T_Inst)).set i ((((((k0 + cnts (x1.take i)) : Nat) : Int), ((((k0 + cnts (x1.take i)) + 1) : Nat) : Int)), (((((k0 + cnts (x1.take i)) + 1) + 1) : Nat) : Int), ((((((k0 + cnts (x1.take i)) + 1) + 1) + 1) : Nat) : Int), (((((((k0 + cnts (x1.take i)) + 1) + 1) + 1) + 1) : Nat) : Int), (((((((((k0 + cnts (x1.take i)) + 1) + 1) + 1) + 1) + 1) : Nat) : Int), b52, b53, b54, b55, b56, b57, b58), b6, b7, b8) : T_Inst)).set i ((((((k0 + cnts (x1.take i)) : Nat) : Int), ((((k0 + cnts (x1.take i)) + 1) : Nat) : Int)), (((((k0 + cnts (x1.take i)) + 1) + 1) : Nat) : Int), ((((((k0 + cnts (x1.take i)) + 1) + 1) + 1) : Nat) : Int), (((((((k0 + cnts (x1.take i)) + 1) + 1) + 1) + 1) : Nat) : Int), (((((((((k0 + cnts (x1.take i)) + 1) + 1) + 1) + 1) + 1) : Nat) : Int), (((((((((k0 + cnts (x1.take i)) + 1) + 1) + 1) + 1) + 1) + 1) : Nat) : Int), b53, b54, b55, b56, b57, b58), b6, b7, b8) : T_Inst)) : List T_Inst)[i]? = some ((((((k0 + cnts (x1.take i)) : Nat) : Int), ((((k0 + cnts (x1.take i)) + 1) : Nat) : Int)), (((((k0 + cnts (x1.take i)) + 1) + 1) : Nat) : Int), ((((((k0 + cnts (x1.take i)) + 1) + 1) + 1) : Nat) : Int), (((((((k0 + cnts (x1.take i)) + 1) + 1) + 1) + 1) : Nat) : Int), (((((((((k0 + cnts (x1.take i)) + 1) + 1) + 1) + 1) + 1) : Nat) : Int), (((((((((k0 + cnts (x1.take i)) + 1) + 1) + 1) + 1) + 1) + 1) : Nat) : Int), b53, b54, b55, b56, b57, b58), b6, b7, b8) : T_Inst) from set_get (set_get (set_get (set_get (set_get (set_get (set_get (half_get (k := k0) hu)))))))) rfl rfl (by decide) rfl (fun w h => by exact ⟨⟨h.1.1, h.1.2⟩, h.2.1, h.2.2.1, h.2.2.2.1, ⟨h.2.2.2.2.1.1, h.2.2.2.2.1.2.1, (by exact trivial), h.2.2.2.2.1.2.2.2.1, h.2.2.2.2.1.2.2.2.2.1, h.2.2.2.2.1.2.2.2.2.2.1, h.2.2.2.2.1.2.2.2.2.2.2.1, h.2.2.2.2.1.2.2.2.2.2.2.2⟩, h.2.2.2.2.2.1, h.2.2.2.2.2.2.1, h.2.2.2.2.2.2.2⟩) one3 ?_
      refine L_nil ?_
      refine W_seq ?_
      refine W_region ?_
      refine L_move rfl rfl ?_
      refine L_binV rfl rfl rfl (bv_addR (by unfold inR; omega)) ?_
      refine L_assign rfl rfl ?_
      refine L_nil ?_
      rw [show ((((((((((k0 + cnts (x1.take i)) + 1) + 1) + 1) + 1) + 1) + 1) + 1) : Nat) : Int) + 1 = ((((((((((k0 + cnts (x1.take i)) + 1) + 1) + 1) + 1) + 1) + 1) + 1) + 1 : Nat) : Int) from rfl]
      refine W_seq ?_
      refine W_region ?_
      refine L_move rfl rfl ?_
      refine L_move rfl rfl ?_
      refine L_move rfl rfl ?_
      refine L_callX rfl fn115 rfl (by exact fun w hw => markText_spec w (((((((((k0 + cnts (x1.take i)) + 1) + 1) + 1) + 1) + 1) + 1) + 1) + 1) (by omega) (by omega)) ?_
      refine L_indexAddr rfl rfl rfl el114 rfl (by omega) ?_
      refine L_fieldAddr rfl rfl fld267_4 ?_
      refine L_fieldAddr rfl rfl fld129_3 ?_
      refine L_storeElF (fo := 8) (x' := ((((((k0 + cnts (x1.take i)) : Nat) : Int), ((((k0 + cnts (x1.take i)) + 1) : Nat) : Int)), (((((k0 + cnts (x1.take i)) + 1) + 1) : Nat) : Int), ((((((k0 + cnts (x1.take i)) + 1) + 1) + 1) : Nat) : Int), (((((((k0 + cnts (x1.take i)) + 1) + 1) + 1) + 1) : Nat) : Int), (((((((((k0 + cnts (x1.take i)) + 1) + 1) + 1) + 1) + 1) : Nat) : Int), (((((((((k0 + cnts (x1.take i)) + 1) + 1) + 1) + 1) + 1) + 1) : Nat) : Int), ((((((((((k0 + cnts (x1.take i)) + 1) + 1) + 1) + 1) + 1) + 1) + 1) : Nat) : Int), (mtx (((((((((k0 + cnts (x1.take i)) + 1) + 1) + 1) + 1) + 1) + 1) + 1) + 1)), b55, b56, b57, b58), b6, b7, b8) : T_Inst)) rfl rfl (by repeat (first | exact Pick.here _ | apply Pick.there)) rfl (show ((((((((((half k0 i x1).set i ((((((k0 + cnts (x1.take i)) : Nat) : Int), b12), b2, b3, b4, (b51, b52, b53, b54, b55, b56, b57, b58), b6, b7, b8) : T_Inst)).set i ((((((k0 + cnts (x1.take i)) : Nat) : Int), ((((k0 + cnts (x1.take i)) + 1) : Nat) : Int)), b2, b3, b4, (b51, b52, b53, b54, b55, b56, b57, b58), b6, b7, b8) : T_Inst)).set i ((((((k0 + cnts (x1.take i)) : Nat) : Int), ((((k0 + cnts (x1.take i)) + 1) : Nat) : Int)), (((((k0 + cnts (x1.take i)) + 1) + 1) : Nat) : Int), b3, b4, (b51, b52, b53, b54, b55, b56, b57, b58), b6, b7, b8) : T_Inst)).set i ((((((k0 + cnts (x1.take i)) : Nat) : Int), ((((k0 + cnts (x1.take i)) + 1) : Nat) : Int)), (((((k0 + cnts (x1.take i)) + 1) + 1) : Nat) : Int), ((((((k0 + cnts (x1.take i)) + 1) + 1) + 1) : Nat) : Int), b4, (b51, b52, b53, b54, b55, b56, b57, b58), b6, b7, b8) : T_Inst)).set i ((((((k0 + cnts (x1.take i)) : Nat) : Int), ((((k0 + cnts (x1.take i)) + 1) : Nat) : Int)), (((((k0 + cnts (x1.take i)) + 1) + 1) : Nat) : Int), ((((((k0 + cnts (x1.take i)) + 1) + 1) + 1) : Nat) : Int), (((((((k0 + cnts (x1.take i)) + 1) + 1) + 1) + 1) : Nat) : Int), (b51, b52, b53, b54, b55, b56, b57, b58), b6, b7, b8) : T_Inst)).set i ((((((k0 + cnts (x1.take i)) : Nat) : Int), ((((k0 + cnts (x1.take i)) + 1) : Nat) : Int)), (((((k0 + cnts (x1.take i)) + 1) + 1) : Nat) : Int), ((((((k0 + cnts (x1.take i)) + 1) + 1) + 1) : Nat) : Int), (((((((k0 + cnts (x1.take i)) + 1) + 1) + 1) + 1) : Nat) : Int), (((((((((k0 + cnts (x1.take i)) + 1) + 1) + 1) + 1) + 1) : Nat) : Int), b52, b53, b54, b55, b56, b57, b58), b6, b7, b8) : T_Inst)).set i ((((((k0 + cnts (x1.take i)) : Nat) : Int), ((((k0 + cnts (x1.take i)) + 1) : Nat) : Int)), (((((k0 + cnts (x1.take i)) + 1) + 1) : Nat) : Int), ((((((k0 + cnts (x1.take i)) + 1) + 1) + 1) : Nat) : Int), (((((((k0 + cnts (x1.take i)) + 1) + 1) + 1) + 1) : Nat) : Int), (((((((((k0 + cnts (x1.take i)) + 1) + 1) + 1) + 1) + 1) : Nat) : Int), (((((((((k0 + cnts (x1.take i)) + 1) + 1) + 1) + 1) + 1) + 1) : Nat) : Int), b53, b54, b55, b56, b57, b58), b6, b7, b8) : T_Inst)).set i ((((((k0 + cnts (x1.take i)) : Nat) : Int), ((((k0 + cnts (x1.take i)) + 1) : Nat) : Int)), (((((k0 + cnts (x1.take i)) + 1) + 1) : Nat) : Int), ((((((k0 + cnts (x1.take i)) + 1) + 1) + 1) : Nat) : Int), (((((((k0 + cnts (x1.take i)) + 1) + 1) + 1) + 1) : Nat) : Int), (((((((((k0 + cnts (x1.take i)) + 1) + 1) + 1) + 1) + 1) : Nat) : Int), (((((((((k0 + cnts (x1.take i)) + 1) + 1) + 1) + 1) + 1) + 1) : Nat) : Int), ((((((((((k0 + cnts (x1.take i)) + 1) + 1) + 1) + 1) + 1) + 1) + 1) : Nat) : Int), b54, b55, b56, b57, b58), b6, b7, b8) : T_Inst)) : List T_Inst)[i]? = some ((((((k0 + cnts (x1.take i)) : Nat) : Int), ((((k0 + cnts (x1.take i)) + 1) : Nat) : Int)), (((((k0 + cnts (x1.take i)) + 1) + 1) : Nat) : Int), ((((((k0 + cnts (x1.take i)) + 1) + 1) + 1) : Nat) : Int), (((((((k0 + cnts (x1.take i)) + 1) + 1) + 1) + 1) : Nat) : Int), (((((((((k0 + cnts (x1.take i)) + 1) + 1) + 1) + 1) + 1) : Nat) : Int), (((((((((k0 + cnts (x1.take i)) + 1) + 1) + 1) + 1) + 1) + 1) : Nat) : Int), ((((((((((k0 + cnts (x1.take i)) + 1) + 1) + 1) + 1) + 1) + 1) + 1) : Nat) : Int), b54, b55, b56, b57, b58), b6, b7, b8) : T_Inst) from set_get (set_get (set_get (set_get (set_get (set_get (set_get (set_get (half_get (k := k0) hu))))))))) rfl rfl (by decide) rfl (fun w h => by exact ⟨⟨h.1.1, h.1.2⟩, h.2.1, h.2.2.1, h.2.2.2.1, ⟨h.2.2.2.2.1.1, h.2.2.2.2.1.2.1, h.2.2.2.2.1.2.2.1, (by exact trivial), h.2.2.2.2.1.2.2.2.2.1, h.2.2.2.2.1.2.2.2.2.2.1, h.2.2.2.2.1.2.2.2.2.2.2.1, h.2.2.2.2.1.2.2.2.2.2.2.2⟩, h.2.2.2.2.2.1, h.2.2.2.2.2.2.1, h.2.2.2.2.2.2.2⟩) one9 ?_
      refine L_nil ?_
      refine W_seq ?_
      refine W_region ?_
      refine L_move rfl rfl ?_
      refine L_binV rfl rfl rfl (bv_addR (by unfold inR; omega)) ?_
      refine L_assign rfl rfl ?_
      refine L_nil ?_
      rw [show (((((((((((k0 + cnts (x1.take i)) + 1) + 1) + 1) + 1) + 1) + 1) + 1) + 1) : Nat) : Int) + 1 = (((((((((((k0 + cnts (x1.take i)) + 1) + 1) + 1) + 1) + 1) + 1) + 1) + 1) + 1 : Nat) : Int) from rfl]
      refine W_seq ?_
      refine W_region ?_
      refine L_move rfl rfl ?_
      refine L_move rfl rfl ?_
      refine L_move rfl rfl ?_
      refine L_callX rfl fn115 rfl (by exact fun w hw => markText_spec w ((((((((((k0 + cnts (x1.take i)) + 1) + 1) + 1) + 1) + 1) + 1) + 1) + 1) + 1) (by omega) (by omega)) ?_
      refine L_indexAddr rfl rfl rfl el114 rfl (by omega) ?_
      refine L_fieldAddr rfl rfl fld267_4 ?_
      refine L_fieldAddr rfl rfl fld129_4 ?_
      refine L_storeElF (fo := 9) (x' := ((((((k0 + cnts (x1.take i)) : Nat) : Int), ((((k0 + cnts (x1.take i)) + 1) : Nat) : Int)), (((((k0 + cnts (x1.take i)) + 1) + 1) : Nat) : Int), ((((((k0 + cnts (x1.take i)) + 1) + 1) + 1) : Nat) : Int), (((((((k0 + cnts (x1.take i)) + 1) + 1) + 1) + 1) : Nat) : Int), (((((((((k0 + cnts (x1.take i)) + 1) + 1) + 1) + 1) + 1) : Nat) : Int), (((((((((k0 + cnts (x1.take i)) + 1) + 1) + 1) + 1) + 1) + 1) : Nat) : Int), ((((((((((k0 + cnts (x1.take i)) + 1) + 1) + 1) + 1) + 1) + 1) + 1) : Nat) : Int), (mtx (((((((((k0 + cnts (x1.take i)) + 1) + 1) + 1) + 1) + 1) + 1) + 1) + 1)), (mtx ((((((((((k0 + cnts (x1.take i)) + 1) + 1) + 1) + 1) + 1) + 1) + 1) + 1) + 1)), b56, b57, b58), b6, b7, b8) : T_Inst)) rfl rfl (by repeat (first | exact Pick.here _ | apply Pick.there)) rfl (show (((((((((((half k0 i x1).set i ((((((k0 + cnts (x1.take i)) : Nat) : Int), b12), b2, b3, b4, (b51, b52, b53, b54, b55, b56, b57, b58), b6, b7, b8) : T_Inst)).set i ((((((k0 + cnts (x1.take i)) : Nat) : Int), ((((k0 + cnts (x1.take i)) + 1) : Nat) : Int)), b2, b3, b4, (b51, b52, b53, b54, b55, b56, b57, b58), b6, b7, b8) : T_Inst)).set i ((((((k0 + cnts (x1.take i)) : Nat) : Int), ((((k0 + cnts (x1.take i)) + 1) : Nat) : Int)), (((((k0 + cnts (x1.take i)) + 1) + 1) : Nat) : Int), b3, b4, (b51, b52, b53, b54, b55, b56, b57, b58), b6, b7, b8) : T_Inst)).set i ((((((k0 + cnts (x1.take i)) : Nat) : Int), ((((k0 + cnts (x1.take i)) + 1) : Nat) : Int)), (((((k0 + cnts (x1.take i)) + 1) + 1) : Nat) : Int), ((((((k0 + cnts (x1.take i)) + 1) + 1) + 1) : Nat) : Int), b4, (b51, b52, b53, b54, b55, b56, b57, b58), b6, b7, b8) : T_Inst)).set i ((((((k0 + cnts (x1.take i)) : Nat) : Int), ((((k0 + cnts (x1.take i)) + 1) : Nat) : Int)), (((((k0 + cnts (x1.take i)) + 1) + 1) : Nat) : Int), ((((((k0 + cnts (x1.take i)) + 1) + 1) + 1) : Nat) : Int), (((((((k0 + cnts (x1.take i)) + 1) + 1) + 1) + 1) : Nat) : Int), (b51, b52, b53, b54, b55, b56, b57, b58), b6, b7, b8) : T_Inst)).set i ((((((k0 + cnts (x1.take i)) : Nat) : Int), ((((k0 + cnts (x1.take i)) + 1) : Nat) : Int)), (((((k0 + cnts (x1.take i)) + 1) + 1) : Nat) : Int), ((((((k0 + cnts (x1.take i)) + 1) + 1) + 1) : Nat) : Int), (((((((k0 + cnts (x1.take i)) + 1) + 1) + 1) + 1) : Nat) : Int), (((((((((k0 + cnts (x1.take i)) + 1) + 1) + 1) + 1) + 1) : Nat) : Int), b52, b53, b54, b55, b56, b57, b58), b6, b7, b8) : T_Inst)).set i ((((((k0 + cnts (x1.take i)) : Nat) : Int), ((((k0 + cnts (x1.take i)) + 1) : Nat) : Int)), (((((k0 + cnts (x1.take i)) + 1) + 1) : Nat) : Int), ((((((k0 + cnts (x1.take i)) + 1) + 1) + 1) : Nat) : Int), (((((((k0 + cnts (x1.take i)) + 1) + 1) + 1) + 1) : Nat) : Int), (((((((((k0 + cnts (x1.take i)) + 1) + 1) + 1) + 1) + 1) : Nat) : Int), (((((((((k0 + cnts (x1.take i)) + 1) + 1) + 1) + 1) + 1) + 1) : Nat) : Int), b53, b54, b55, b56, b57, b58), b6, b7, b8) : T_Inst)).set i ((((((k0 + cnts (x1.take i)) : Nat) : Int), ((((k0 + cnts (x1.take i)) + 1) : Nat) : Int)), (((((k0 + cnts (x1.take i)) + 1) + 1) : Nat) : Int), ((((((k0 + cnts (x1.take i)) + 1) + 1) + 1) : Nat) : Int), (((((((k0 + cnts (x1.take i)) + 1) + 1) + 1) + 1) : Nat) : Int), (((((((((k0 + cnts (x1.take i)) + 1) + 1) + 1) + 1) + 1) : Nat) : Int), (((((((((k0 + cnts (x1.take i)) + 1) + 1) + 1) + 1) + 1) + 1) : Nat) : Int), ((((((((((k0 + cnts (x1.take i)) + 1) + 1) + 1) + 1) + 1) + 1) + 1) : Nat) : Int), b54, b55, b56, b57, b58), b6, b7, b8) : T_Inst)).set i ((((((k0 + cnts (x1.take i)) : Nat) : Int), ((((k0 + cnts (x1.take i)) + 1) : Nat) : Int)), (((((k0 + cnts (x1.take i)) + 1) + 1) : Nat) : Int), ((((((k0 + cnts (x1.take i)) + 1) + 1) + 1) : Nat) : Int), (((((((k0 + cnts (x1.take i)) + 1) + 1) + 1) + 1) : Nat) : Int), (((((((((k0 + cnts (x1.take i)) + 1) + 1) + 1) + 1) + 1) : Nat) : Int), (((((((((k0 + cnts (x1.take i)) + 1) + 1) + 1) + 1) + 1) + 1) : Nat) : Int), ((((((((((k0 + cnts (x1.take i)) + 1) + 1) + 1) + 1) + 1) + 1) + 1) : Nat) : Int), (mtx (((((((((k0 + cnts (x1.take i)) + 1) + 1) + 1) + 1) + 1) + 1) + 1) + 1)), b55, b56, b57, b58), b6, b7, b8) : T_Inst)) : List T_Inst)[i]? = some ((((((k0 + cnts (x1.take i)) : Nat) : Int), ((((k0 + cnts (x1.take i)) + 1) : Nat) : Int)), (((((k0 + cnts (x1.take i)) + 1) + 1) : Nat) : Int), ((((((k0 + cnts (x1.take i)) + 1) + 1) + 1) : Nat) : Int), (((((((k0 + cnts (x1.take i)) + 1) + 1) + 1) + 1) : Nat) : Int), (((((((((k0 + cnts (x1.take i)) + 1) + 1) + 1) + 1) + 1) : Nat) : Int), (((((((((k0 + cnts (x1.take i)) + 1) + 1) + 1) + 1) + 1) + 1) : Nat) : Int), ((((((((((k0 + cnts (x1.take i)) + 1) + 1) + 1) + 1) + 1) + 1) + 1) : Nat) : Int), (mtx (((((((((k0 + cnts (x1.take i)) + 1) + 1) + 1) + 1) + 1) + 1) + 1) + 1)), b55, b56, b57, b58), b6, b7, b8) : T_Inst) from set_get (set_get (set_get (set_get (set_get (set_get (set_get (set_get (set_get (half_get (k := k0) hu)))))))))) rfl rfl (by decide) rfl (fun w h => by exact ⟨⟨h.1.1, h.1.2⟩, h.2.1, h.2.2.1, h.2.2.2.1, ⟨h.2.2.2.2.1.1, h.2.2.2.2.1.2.1, h.2.2.2.2.1.2.2.1, h.2.2.2.2.1.2.2.2.1, (by exact trivial), h.2.2.2.2.1.2.2.2.2.2.1, h.2.2.2.2.1.2.2.2.2.2.2.1, h.2.2.2.2.1.2.2.2.2.2.2.2⟩, h.2.2.2.2.2.1, h.2.2.2.2.2.2.1, h.2.2.2.2.2.2.2⟩) one9 ?_
      refine L_nil ?_
      refine W_seq ?_
      refine W_region ?_
      refine L_move rfl rfl ?_
      refine L_binV rfl rfl rfl (bv_addR (by unfold inR; omega)) ?_
      refine L_assign rfl rfl ?_
      refine L_nil ?_
      rw [show ((((((((((((k0 + cnts (x1.take i)) + 1) + 1) + 1) + 1) + 1) + 1) + 1) + 1) + 1) : Nat) : Int) + 1 = ((((((((((((k0 + cnts (x1.take i)) + 1) + 1) + 1) + 1) + 1) + 1) + 1) + 1) + 1) + 1 : Nat) : Int) from rfl]
      refine W_seq ?_
      refine W_region ?_
      refine L_move rfl rfl ?_
      refine L_move rfl rfl ?_
      refine L_move rfl rfl ?_
      refine L_callX rfl fn115 rfl (by exact fun w hw => markText_spec w (((((((((((k0 + cnts (x1.take i)) + 1) + 1) + 1) + 1) + 1) + 1) + 1) + 1) + 1) + 1) (by omega) (by omega)) ?_
      refine L_indexAddr rfl rfl rfl el114 rfl (by omega) ?_
      refine L_fieldAddr rfl rfl fld267_4 ?_
      refine L_fieldAddr rfl rfl fld129_5 ?_
      refine L_storeElF (fo := 10) (x' := ((((((k0 + cnts (x1.take i)) : Nat) : Int), ((((k0 + cnts (x1.take i)) + 1) : Nat) : Int)), (((((k0 + cnts (x1.take i)) + 1) + 1) : Nat) : Int), ((((((k0 + cnts (x1.take i)) + 1) + 1) + 1) : Nat) : Int), (((((((k0 + cnts (x1.take i)) + 1) + 1) + 1) + 1) : Nat) : Int), (((((((((k0 + cnts (x1.take i)) + 1) + 1) + 1) + 1) + 1) : Nat) : Int), (((((((((k0 + cnts (x1.take i)) + 1) + 1) + 1) + 1) + 1) + 1) : Nat) : Int), ((((((((((k0 + cnts (x1.take i)) + 1) + 1) + 1) + 1) + 1) + 1) + 1) : Nat) : Int), (mtx (((((((((k0 + cnts (x1.take i)) + 1) + 1) + 1) + 1) + 1) + 1) + 1) + 1)), (mtx ((((((((((k0 + cnts (x1.take i)) + 1) + 1) + 1) + 1) + 1) + 1) + 1) + 1) + 1)), (mtx (((((((((((k0 + cnts (x1.take i)) + 1) + 1) + 1) + 1) + 1) + 1) + 1) + 1) + 1) + 1)), b57, b58), b6, b7, b8) : T_Inst)) rfl rfl (by repeat (first | exact Pick.here _ | apply Pick.there)) rfl (show ((((((((((((half k0 i x1).set i ((((((k0 + cnts (x1.take i)) : Nat) : Int), b12), b2, b3, b4, (b51, b52, b53, b54, b55, b56, b57, b58), b6, b7, b8) : T_Inst)).set i ((((((k0 + cnts (x1.take i)) : Nat) : Int), ((((k0 + cnts (x1.take i)) + 1) : Nat) : Int)), b2, b3, b4, (b51, b52, b53, b54, b55, b56, b57, b58), b6, b7, b8) : T_Inst)).set i ((((((k0 + cnts (x1.take i)) : Nat) : Int), ((((k0 + cnts (x1.take i)) + 1) : Nat) : Int)), (((((k0 + cnts (x1.take i)) + 1) + 1) : Nat) : Int), b3, b4, (b51, b52, b53, b54, b55, b56, b57, b58), b6, b7, b8) : T_Inst)).set i ((((((k0 + cnts (x1.take i)) : Nat) : Int), ((((k0 + cnts (x1.take i)) + 1) : Nat) : Int)), (((((k0 + cnts (x1.take i)) + 1) + 1) : Nat) : Int), ((((((k0 + cnts (x1.take i)) + 1) + 1) + 1) : Nat) : Int), b4, (b51, b52, b53, b54, b55, b56, b57, b58), b6, b7, b8) : T_Inst)).set i ((((((k0 + cnts (x1.take i)) : Nat) : Int), ((((k0 + cnts (x1.take i)) + 1) : Nat) : Int)), (((((k0 + cnts (x1.take i)) + 1) + 1) : Nat) : Int), ((((((k0 + cnts (x1.take i)) + 1) + 1) + 1) : Nat) : Int), (((((((k0 + cnts (x1.take i)) + 1) + 1) + 1) + 1) : Nat) : Int), (b51, b52, b53, b54, b55, b56, b57, b58), b6, b7, b8) : T_Inst)).set i ((((((k0 + cnts (x1.take i)) : Nat) : Int), ((((k0 + cnts (x1.take i)) + 1) : Nat) : Int)), (((((k0 + cnts (x1.take i)) + 1) + 1) : Nat) : Int), ((((((k0 + cnts (x1.take i)) + 1) + 1) + 1) : Nat) : Int), (((((((k0 + cnts (x1.take i)) + 1) + 1) + 1) + 1) : Nat) : Int), (((((((((k0 + cnts (x1.take i)) + 1) + 1) + 1) + 1) + 1) : Nat) : Int), b52, b53, b54, b55, b56, b57, b58), b6, b7, b8) : T_Inst)).set i ((((((k0 + cnts (x1.take i)) : Nat) : Int), ((((k0 + cnts (x1.take i)) + 1) : Nat) : Int)), (((((k0 + cnts (x1.take i)) + 1) + 1) : Nat) : Int), ((((((k0 + cnts (x1.take i)) + 1) + 1) + 1) : Nat) : Int), (((((((k0 + cnts (x1.take i)) + 1) + 1) + 1) + 1) : Nat) : Int), (((((((((k0 + cnts (x1.take i)) + 1) + 1) + 1) + 1) + 1) : Nat) : Int), (((((((((k0 + cnts (x1.take i)) + 1) + 1) + 1) + 1) + 1) + 1) : Nat) : Int), b53, b54, b55, b56, b57, b58), b6, b7, b8) : T_Inst)).set i ((((((k0 + cnts (x1.take i)) : Nat) : Int), ((((k0 + cnts (x1.take i)) + 1) : Nat) : Int)), (((((k0 + cnts (x1.take i)) + 1) + 1) : Nat) : Int), ((((((k0 + cnts (x1.take i)) + 1) + 1) + 1) : Nat) : Int), (((((((k0 + cnts (x1.take i)) + 1) + 1) + 1) + 1) : Nat) : Int), (((((((((k0 + cnts (x1.take i)) + 1) + 1) + 1) + 1) + 1) : Nat) : Int), (((((((((k0 + cnts (x1.take i)) + 1) + 1) + 1) + 1) + 1) + 1) : Nat) : Int), ((((((((((k0 + cnts (x1.take i)) + 1) + 1) + 1) + 1) + 1) + 1) + 1) : Nat) : Int), b54, b55, b56, b57, b58), b6, b7, b8) : T_Inst)).set i ((((((k0 + cnts (x1.take i)) : Nat) : Int), ((((k0 + cnts (x1.take i)) + 1) : Nat) : Int)), (((((k0 + cnts (x1.take i)) + 1) + 1) : Nat) : Int), ((((((k0 + cnts (x1.take i)) + 1) + 1) + 1) : Nat) : Int), (((((((k0 + cnts (x1.take i)) + 1) + 1) + 1) + 1) : Nat) : Int), (((((((((k0 + cnts (x1.take i)) + 1) + 1) + 1) + 1) + 1) : Nat) : Int), (((((((((k0 + cnts (x1.take i)) + 1) + 1) + 1) + 1) + 1) + 1) : Nat) : Int), ((((((((((k0 + cnts (x1.take i)) + 1) + 1) + 1) + 1) + 1) + 1) + 1) : Nat) : Int), (mtx (((((((((k0 + cnts (x1.take i)) + 1) + 1) + 1) + 1) + 1) + 1) + 1) + 1)), b55, b56, b57, b58), b6, b7, b8) : T_Inst)).set i ((((((k0 + cnts (x1.take i)) : Nat) : Int), ((((k0 + cnts (x1.take i)) + 1) : Nat) : Int)), (((((k0 + cnts (x1.take i)) + 1) + 1) : Nat) : Int), ((((((k0 + cnts (x1.take i)) + 1) + 1) + 1) : Nat) : Int), (((((((k0 + cnts (x1.take i)) + 1) + 1) + 1) + 1) : Nat) : Int), (((((((((k0 + cnts (x1.take i)) + 1) + 1) + 1) + 1) + 1) : Nat) : Int), (((((((((k0 + cnts (x1.take i)) + 1) + 1) + 1) + 1) + 1) + 1) : Nat) : Int), ((((((((((k0 + cnts (x1.take i)) + 1) + 1) + 1) + 1) + 1) + 1) + 1) : Nat) : Int), (mtx (((((((((k0 + cnts (x1.take i)) + 1) + 1) + 1) + 1) + 1) + 1) + 1) + 1)), (mtx ((((((((((k0 + cnts (x1.take i)) + 1) + 1) + 1) + 1) + 1) + 1) + 1) + 1) + 1)), b56, b57, b58), b6, b7, b8) : T_Inst)) : List T_Inst)[i]? = some ((((((k0 + cnts (x1.take i)) : Nat) : Int), ((((k0 + cnts (x1.take i)) + 1) : Nat) : Int)), (((((k0 + cnts (x1.take i)) + 1) + 1) : Nat) : Int), ((((((k0 + cnts (x1.take i)) + 1) + 1) + 1) : Nat) : Int), (((((((k0 + cnts (x1.take i)) + 1) + 1) + 1) + 1) : Nat) : Int), (((((((((k0 + cnts (x1.take i)) + 1) + 1) + 1) + 1) + 1) : Nat) : Int), (((((((((k0 + cnts (x1.take i)) + 1) + 1) + 1) + 1) + 1) + 1) : Nat) : Int), ((((((((((k0 + cnts (x1.take i)) + 1) + 1) + 1) + 1) + 1) + 1) + 1) : Nat) : Int), (mtx (((((((((k0 + cnts (x1.take i)) + 1) + 1) + 1) + 1) + 1) + 1) + 1) + 1)), (mtx ((((((((((k0 + cnts (x1.take i)) + 1) + 1) + 1) + 1) + 1) + 1) + 1) + 1) + 1)), b56, b57, b58), b6, b7, b8) : T_Inst) from set_get (set_get (set_get (set_get (set_get (set_get (set_get (set_get (set_get (set_get (half_get (k := k0) hu))))))))))) rfl rfl (by decide) rfl (fun w h => by exact ⟨⟨h.1.1, h.1.2⟩, h.2.1, h.2.2.1, h.2.2.2.1, ⟨h.2.2.2.2.1.1, h.2.2.2.2.1.2.1, h.2.2.2.2.1.2.2.1, h.2.2.2.2.1.2.2.2.1, h.2.2.2.2.1.2.2.2.2.1, (by exact trivial), h.2.2.2.2.1.2.2.2.2.2.2.1, h.2.2.2.2.1.2.2.2.2.2.2.2⟩, h.2.2.2.2.2.1, h.2.2.2.2.2.2.1, h.2.2.2.2.2.2.2⟩) one9 ?_
      refine L_nil ?_
      refine W_seq ?_
      refine W_region ?_
      refine L_move rfl rfl ?_
      refine L_binV rfl rfl rfl (bv_addR (by unfold inR; omega)) ?_
      refine L_assign rfl rfl ?_
      refine L_nil ?_
      rw [show (((((((((((((k0 + cnts (x1.take i)) + 1) + 1) + 1) + 1) + 1) + 1) + 1) + 1) + 1) + 1) : Nat) : Int) + 1 = (((((((((((((k0 + cnts (x1.take i)) + 1) + 1) + 1) + 1) + 1) + 1) + 1) + 1) + 1) + 1) + 1 : Nat) : Int) from rfl]
      refine W_seq ?_
      refine W_region ?_
      refine L_move rfl rfl ?_
      refine L_move rfl rfl ?_
      refine L_move rfl rfl ?_
      refine L_indexAddr rfl rfl rfl el114 rfl (by omega) ?_
      refine L_fieldAddr rfl rfl fld267_4 ?_
      refine L_fieldAddr rfl rfl fld129_6 ?_
      refine L_storeElF (fo := 11) (x' := ((((((k0 + cnts (x1.take i)) : Nat) : Int), ((((k0 + cnts (x1.take i)) + 1) : Nat) : Int)), (((((k0 + cnts (x1.take i)) + 1) + 1) : Nat) : Int), ((((((k0 + cnts (x1.take i)) + 1) + 1) + 1) : Nat) : Int), (((((((k0 + cnts (x1.take i)) + 1) + 1) + 1) + 1) : Nat) : Int), (((((((((k0 + cnts (x1.take i)) + 1) + 1) + 1) + 1) + 1) : Nat) : Int), (((((((((k0 + cnts (x1.take i)) + 1) + 1) + 1) + 1) + 1) + 1) : Nat) : Int), ((((((((((k0 + cnts (x1.take i)) + 1) + 1) + 1) + 1) + 1) + 1) + 1) : Nat) : Int), (mtx (((((((((k0 + cnts (x1.take i)) + 1) + 1) + 1) + 1) + 1) + 1) + 1) + 1)), (mtx ((((((((((k0 + cnts (x1.take i)) + 1) + 1) + 1) + 1) + 1) + 1) + 1) + 1) + 1)), (mtx (((((((((((k0 + cnts (x1.take i)) + 1) + 1) + 1) + 1) + 1) + 1) + 1) + 1) + 1) + 1)), ((((((((((((((k0 + cnts (x1.take i)) + 1) + 1) + 1) + 1) + 1) + 1) + 1) + 1) + 1) + 1) + 1) : Nat) : Int), b58), b6, b7, b8) : T_Inst)) rfl rfl (by repeat (first | exact Pick.here _ | apply Pick.there)) rfl (show (((((((((((((half k0 i x1).set i ((((((k0 + cnts (x1.take i)) : Nat) : Int), b12), b2, b3, b4, (b51, b52, b53, b54, b55, b56, b57, b58), b6, b7, b8) : T_Inst)).set i ((((((k0 + cnts (x1.take i)) : Nat) : Int), ((((k0 + cnts (x1.take i)) + 1) : Nat) : Int)), b2, b3, b4, (b51, b52, b53, b54, b55, b56, b57, b58), b6, b7, b8) : T_Inst)).set i ((((((k0 + cnts (x1.take i)) : Nat) : Int), ((((k0 + cnts (x1.take i)) + 1) : Nat) : Int)), (((((k0 + cnts (x1.take i)) + 1) + 1) : Nat) : Int), b3, b4, (b51, b52, b53, b54, b55, b56, b57, b58), b6, b7, b8) : T_Inst)).set i ((((((k0 + cnts (x1.take i)) : Nat) : Int), ((((k0 + cnts (x1.take i)) + 1) : Nat) : Int)), (((((k0 + cnts (x1.take i)) + 1) + 1) : Nat) : Int), ((((((k0 + cnts (x1.take i)) + 1) + 1) + 1) : Nat) : Int), b4, (b51, b52, b53, b54, b55, b56, b57, b58), b6, b7, b8) : T_Inst)).set i ((((((k0 + cnts (x1.take i)) : Nat) : Int), ((((k0 + cnts (x1.take i)) + 1) : Nat) : Int)), (((((k0 + cnts (x1.take i)) + 1) + 1) : Nat) : Int), ((((((k0 + cnts (x1.take i)) + 1) + 1) + 1) : Nat) : Int), (((((((k0 + cnts (x1.take i)) + 1) + 1) + 1) + 1) : Nat) : Int), (b51, b52, b53, b54, b55, b56, b57, b58), b6, b7, b8) : T_Inst)).set i ((((((k0 + cnts (x1.take i)) : Nat) : Int), ((((k0 + cnts (x1.take i)) + 1) : Nat) : Int)), (((((k0 + cnts (x1.take i)) + 1) + 1) : Nat) : Int), ((((((k0 + cnts (x1.take i)) + 1) + 1) + 1) : Nat) : Int), (((((((k0 + cnts (x1.take i)) + 1) + 1) + 1) + 1) : Nat) : Int), (((((((((k0 + cnts (x1.take i)) + 1) + 1) + 1) + 1) + 1) : Nat) : Int), b52, b53, b54, b55, b56, b57, b58), b6, b7, b8) : T_Inst)).set i ((((((k0 + cnts (x1.take i)) : Nat) : Int), ((((k0 + cnts (x1.take i)) + 1) : Nat) : Int)), (((((k0 + cnts (x1.take i)) + 1) + 1) : Nat) : Int), ((((((k0 + cnts (x1.take i)) + 1) + 1) + 1) : Nat) : Int), (((((((k0 + cnts (x1.take i)) + 1) + 1) + 1) + 1) : Nat) : Int), (((((((((k0 + cnts (x1.take i)) + 1) + 1) + 1) + 1) + 1) : Nat) : Int), (((((((((k0 + cnts (x1.take i)) + 1) + 1) + 1) + 1) + 1) + 1) : Nat) : Int), b53, b54, b55, b56, b57, b58), b6, b7, b8) : T_Inst)).set i ((((((k0 + cnts (x1.take i)) : Nat) : Int), ((((k0 + cnts (x1.take i)) + 1) : Nat) : Int)), (((((k0 + cnts (x1.take i)) + 1) + 1) : Nat) : Int), ((((((k0 + cnts (x1.take i)) + 1) + 1) + 1) : Nat) : Int), (((((((k0 + cnts (x1.take i)) + 1) + 1) + 1) + 1) : Nat) : Int), (((((((((k0 + cnts (x1.take i)) + 1) + 1) + 1) + 1) + 1) : Nat) : Int), (((((((((k0 + cnts (x1.take i)) + 1) + 1) + 1) + 1) + 1) + 1) : Nat) : Int), ((((((((((k0 + cnts (x1.take i)) + 1) + 1) + 1) + 1) + 1) + 1) + 1) : Nat) : Int), b54, b55, b56, b57, b58), b6, b7, b8) : T_Inst)).set i ((((((k0 + cnts (x1.take i)) : Nat) : Int), ((((k0 + cnts (x1.take i)) + 1) : Nat) : Int)), (((((k0 + cnts (x1.take i)) + 1) + 1) : Nat) : Int), ((((((k0 + cnts (x1.take i)) + 1) + 1) + 1) : Nat) : Int), (((((((k0 + cnts (x1.take i)) + 1) + 1) + 1) + 1) : Nat) : Int), (((((((((k0 + cnts (x1.take i)) + 1) + 1) + 1) + 1) + 1) : Nat) : Int), (((((((((k0 + cnts (x1.take i)) + 1) + 1) + 1) + 1) + 1) + 1) : Nat) : Int), ((((((((((k0 + cnts (x1.take i)) + 1) + 1) + 1) + 1) + 1) + 1) + 1) : Nat) : Int), (mtx (((((((((k0 + cnts (x1.take i)) + 1) + 1) + 1) + 1) + 1) + 1) + 1) + 1)), b55, b56, b57, b58), b6, b7, b8) : T_Inst)).set i ((((((k0 + cnts (x1.take i)) : Nat) : Int), ((((k0 + cnts (x1.take i)) + 1) : Nat) : Int)), (((((k0 + cnts (x1.take i)) + 1) + 1) : Nat) : Int), ((((((k0 + cnts (x1.take i)) + 1) + 1) + 1) : Nat) : Int), (((((((k0 + cnts (x1.take i)) + 1) + 1) + 1) + 1) : Nat) : Int), (((((((((k0 + cnts (x1.take i)) + 1) + 1) + 1) + 1) + 1) : Nat) : Int), (((((((((k0 + cnts (x1.take i)) + 1) + 1) + 1) + 1) + 1) + 1) : Nat) : Int), ((((((((((k0 + cnts (x1.take i)) + 1) + 1) + 1) + 1) + 1) + 1) + 1) : Nat) : Int), (mtx (((((((((k0 + cnts (x1.take i)) + 1) + 1) + 1) + 1) + 1) + 1) + 1) + 1)), (mtx ((((((((((k0 + cnts (x1.take i)) + 1) + 1) + 1) + 1) + 1) + 1) + 1) + 1) + 1)), b56, b57, b58), b6, b7, b8) : T_Inst)).set i ((((((k0 + cnts (x1.take i)) : Nat) : Int), ((((k0 + cnts (x1.take i)) + 1) : Nat) : Int)), (((((k0 + cnts (x1.take i)) + 1) + 1) : Nat) : Int), ((((((k0 + cnts (x1.take i)) + 1) + 1) + 1) : Nat) : Int), (((((((k0 + cnts (x1.take i)) + 1) + 1) + 1) + 1) : Nat) : Int), (((((((((k0 + cnts (x1.take i)) + 1) + 1) + 1) + 1) + 1) : Nat) : Int), (((((((((k0 + cnts (x1.take i)) + 1) + 1) + 1) + 1) + 1) + 1) : Nat) : Int), ((((((((((k0 + cnts (x1.take i)) + 1) + 1) + 1) + 1) + 1) + 1) + 1) : Nat) : Int), (mtx (((((((((k0 + cnts (x1.take i)) + 1) + 1) + 1) + 1) + 1) + 1) + 1) + 1)), (mtx ((((((((((k0 + cnts (x1.take i)) + 1) + 1) + 1) + 1) + 1) + 1) + 1) + 1) + 1)), (mtx (((((((((((k0 + cnts (x1.take i)) + 1) + 1) + 1) + 1) + 1) + 1) + 1) + 1) + 1) + 1)), b57, b58), b6, b7, b8) : T_Inst)) : List T_Inst)[i]? = some ((((((k0 + cnts (x1.take i)) : Nat) : Int), ((((k0 + cnts (x1.take i)) + 1) : Nat) : Int)), (((((k0 + cnts (x1.take i)) + 1) + 1) : Nat) : Int), ((((((k0 + cnts (x1.take i)) + 1) + 1) + 1) : Nat) : Int), (((((((k0 + cnts (x1.take i)) + 1) + 1) + 1) + 1) : Nat) : Int), (((((((((k0 + cnts (x1.take i)) + 1) + 1) + 1) + 1) + 1) : Nat) : Int), (((((((((k0 + cnts (x1.take i)) + 1) + 1) + 1) + 1) + 1) + 1) : Nat) : Int), ((((((((((k0 + cnts (x1.take i)) + 1) + 1) + 1) + 1) + 1) + 1) + 1) : Nat) : Int), (mtx (((((((((k0 + cnts (x1.take i)) + 1) + 1) + 1) + 1) + 1) + 1) + 1) + 1)), (mtx ((((((((((k0 + cnts (x1.take i)) + 1) + 1) + 1) + 1) + 1) + 1) + 1) + 1) + 1)), (mtx (((((((((((k0 + cnts (x1.take i)) + 1) + 1) + 1) + 1) + 1) + 1) + 1) + 1) + 1) + 1)), b57, b58), b6, b7, b8) : T_Inst) from set_get (set_get (set_get (set_get (set_get (set_get (set_get (set_get (set_get (set_get (set_get (half_get (k := k0) hu)))))))))))) rfl rfl (by decide) rfl (fun w h => by exact ⟨⟨h.1.1, h.1.2⟩, h.2.1, h.2.2.1, h.2.2.2.1, ⟨h.2.2.2.2.1.1, h.2.2.2.2.1.2.1, h.2.2.2.2.1.2.2.1, h.2.2.2.2.1.2.2.2.1, h.2.2.2.2.1.2.2.2.2.1, h.2.2.2.2.1.2.2.2.2.2.1, (by exact trivial), h.2.2.2.2.1.2.2.2.2.2.2.2⟩, h.2.2.2.2.2.1, h.2.2.2.2.2.2.1, h.2.2.2.2.2.2.2⟩) one3 ?_
      refine L_nil ?_
      refine W_seq ?_
      refine W_region ?_
      refine L_move rfl rfl ?_
      refine L_binV rfl rfl rfl (bv_addR (by unfold inR; omega)) ?_
      refine L_assign rfl rfl ?_
      refine L_nil ?_
      rw [show ((((((((((((((k0 + cnts (x1.take i)) + 1) + 1) + 1) + 1) + 1) + 1) + 1) + 1) + 1) + 1) + 1) : Nat) : Int) + 1 = ((((((((((((((k0 + cnts (x1.take i)) + 1) + 1) + 1) + 1) + 1) + 1) + 1) + 1) + 1) + 1) + 1) + 1 : Nat) : Int) from rfl]
      refine W_seq ?_
      refine W_region ?_
      refine L_move rfl rfl ?_
      refine L_move rfl rfl ?_
      refine L_indexAddr rfl rfl rfl el114 rfl (by omega) ?_
      refine L_fieldAddr rfl rfl fld267_4 ?_
      refine L_fieldAddr rfl rfl fld129_7 ?_
      refine L_load (fo := 12) rfl rfl (by exact RdC.el (L := (⟨some ⟨g, 0, none⟩, c1, e1, (((((((((((((half k0 i x1).set i ((((((k0 + cnts (x1.take i)) : Nat) : Int), b12), b2, b3, b4, (b51, b52, b53, b54, b55, b56, b57, b58), b6, b7, b8) : T_Inst)).set i ((((((k0 + cnts (x1.take i)) : Nat) : Int), ((((k0 + cnts (x1.take i)) + 1) : Nat) : Int)), b2, b3, b4, (b51, b52, b53, b54, b55, b56, b57, b58), b6, b7, b8) : T_Inst)).set i ((((((k0 + cnts (x1.take i)) : Nat) : Int), ((((k0 + cnts (x1.take i)) + 1) : Nat) : Int)), (((((k0 + cnts (x1.take i)) + 1) + 1) : Nat) : Int), b3, b4, (b51, b52, b53, b54, b55, b56, b57, b58), b6, b7, b8) : T_Inst)).set i ((((((k0 + cnts (x1.take i)) : Nat) : Int), ((((k0 + cnts (x1.take i)) + 1) : Nat) : Int)), (((((k0 + cnts (x1.take i)) + 1) + 1) : Nat) : Int), ((((((k0 + cnts (x1.take i)) + 1) + 1) + 1) : Nat) : Int), b4, (b51, b52, b53, b54, b55, b56, b57, b58), b6, b7, b8) : T_Inst)).set i ((((((k0 + cnts (x1.take i)) : Nat) : Int), ((((k0 + cnts (x1.take i)) + 1) : Nat) : Int)), (((((k0 + cnts (x1.take i)) + 1) + 1) : Nat) : Int), ((((((k0 + cnts (x1.take i)) + 1) + 1) + 1) : Nat) : Int), (((((((k0 + cnts (x1.take i)) + 1) + 1) + 1) + 1) : Nat) : Int), (b51, b52, b53, b54, b55, b56, b57, b58), b6, b7, b8) : T_Inst)).set i ((((((k0 + cnts (x1.take i)) : Nat) : Int), ((((k0 + cnts (x1.take i)) + 1) : Nat) : Int)), (((((k0 + cnts (x1.take i)) + 1) + 1) : Nat) : Int), ((((((k0 + cnts (x1.take i)) + 1) + 1) + 1) : Nat) : Int), (((((((k0 + cnts (x1.take i)) + 1) + 1) + 1) + 1) : Nat) : Int), (((((((((k0 + cnts (x1.take i)) + 1) + 1) + 1) + 1) + 1) : Nat) : Int), b52, b53, b54, b55, b56, b57, b58), b6, b7, b8) : T_Inst)).set i ((((((k0 + cnts (x1.take i)) : Nat) : Int), ((((k0 + cnts (x1.take i)) + 1) : Nat) : Int)), (((((k0 + cnts (x1.take i)) + 1) + 1) : Nat) : Int), ((((((k0 + cnts (x1.take i)) + 1) + 1) + 1) : Nat) : Int), (((((((k0 + cnts (x1.take i)) + 1) + 1) + 1) + 1) : Nat) : Int), (((((((((k0 + cnts (x1.take i)) + 1) + 1) + 1) + 1) + 1) : Nat) : Int), (((((((((k0 + cnts (x1.take i)) + 1) + 1) + 1) + 1) + 1) + 1) : Nat) : Int), b53, b54, b55, b56, b57, b58), b6, b7, b8) : T_Inst)).set i ((((((k0 + cnts (x1.take i)) : Nat) : Int), ((((k0 + cnts (x1.take i)) + 1) : Nat) : Int)), (((((k0 + cnts (x1.take i)) + 1) + 1) : Nat) : Int), ((((((k0 + cnts (x1.take i)) + 1) + 1) + 1) : Nat) : Int), (((((((k0 + cnts (x1.take i)) + 1) + 1) + 1) + 1) : Nat) : Int), (((((((((k0 + cnts (x1.take i)) + 1) + 1) + 1) + 1) + 1) : Nat) : Int), (((((((((k0 + cnts (x1.take i)) + 1) + 1) + 1) + 1) + 1) + 1) : Nat) : Int), ((((((((((k0 + cnts (x1.take i)) + 1) + 1) + 1) + 1) + 1) + 1) + 1) : Nat) : Int), b54, b55, b56, b57, b58), b6, b7, b8) : T_Inst)).set i ((((((k0 + cnts (x1.take i)) : Nat) : Int), ((((k0 + cnts (x1.take i)) + 1) : Nat) : Int)), (((((k0 + cnts (x1.take i)) + 1) + 1) : Nat) : Int), ((((((k0 + cnts (x1.take i)) + 1) + 1) + 1) : Nat) : Int), (((((((k0 + cnts (x1.take i)) + 1) + 1) + 1) + 1) : Nat) : Int), (((((((((k0 + cnts (x1.take i)) + 1) + 1) + 1) + 1) + 1) : Nat) : Int), (((((((((k0 + cnts (x1.take i)) + 1) + 1) + 1) + 1) + 1) + 1) : Nat) : Int), ((((((((((k0 + cnts (x1.take i)) + 1) + 1) + 1) + 1) + 1) + 1) + 1) : Nat) : Int), (mtx (((((((((k0 + cnts (x1.take i)) + 1) + 1) + 1) + 1) + 1) + 1) + 1) + 1)), b55, b56, b57, b58), b6, b7, b8) : T_Inst)).set i ((((((k0 + cnts (x1.take i)) : Nat) : Int), ((((k0 + cnts (x1.take i)) + 1) : Nat) : Int)), (((((k0 + cnts (x1.take i)) + 1) + 1) : Nat) : Int), ((((((k0 + cnts (x1.take i)) + 1) + 1) + 1) : Nat) : Int), (((((((k0 + cnts (x1.take i)) + 1) + 1) + 1) + 1) : Nat) : Int), (((((((((k0 + cnts (x1.take i)) + 1) + 1) + 1) + 1) + 1) : Nat) : Int), (((((((((k0 + cnts (x1.take i)) + 1) + 1) + 1) + 1) + 1) + 1) : Nat) : Int), ((((((((((k0 + cnts (x1.take i)) + 1) + 1) + 1) + 1) + 1) + 1) + 1) : Nat) : Int), (mtx (((((((((k0 + cnts (x1.take i)) + 1) + 1) + 1) + 1) + 1) + 1) + 1) + 1)), (mtx ((((((((((k0 + cnts (x1.take i)) + 1) + 1) + 1) + 1) + 1) + 1) + 1) + 1) + 1)), b56, b57, b58), b6, b7, b8) : T_Inst)).set i ((((((k0 + cnts (x1.take i)) : Nat) : Int), ((((k0 + cnts (x1.take i)) + 1) : Nat) : Int)), (((((k0 + cnts (x1.take i)) + 1) + 1) : Nat) : Int), ((((((k0 + cnts (x1.take i)) + 1) + 1) + 1) : Nat) : Int), (((((((k0 + cnts (x1.take i)) + 1) + 1) + 1) + 1) : Nat) : Int), (((((((((k0 + cnts (x1.take i)) + 1) + 1) + 1) + 1) + 1) : Nat) : Int), (((((((((k0 + cnts (x1.take i)) + 1) + 1) + 1) + 1) + 1) + 1) : Nat) : Int), ((((((((((k0 + cnts (x1.take i)) + 1) + 1) + 1) + 1) + 1) + 1) + 1) : Nat) : Int), (mtx (((((((((k0 + cnts (x1.take i)) + 1) + 1) + 1) + 1) + 1) + 1) + 1) + 1)), (mtx ((((((((((k0 + cnts (x1.take i)) + 1) + 1) + 1) + 1) + 1) + 1) + 1) + 1) + 1)), (mtx (((((((((((k0 + cnts (x1.take i)) + 1) + 1) + 1) + 1) + 1) + 1) + 1) + 1) + 1) + 1)), b57, b58), b6, b7, b8) : T_Inst)).set i ((((((k0 + cnts (x1.take i)) : Nat) : Int), ((((k0 + cnts (x1.take i)) + 1) : Nat) : Int)), (((((k0 + cnts (x1.take i)) + 1) + 1) : Nat) : Int), ((((((k0 + cnts (x1.take i)) + 1) + 1) + 1) : Nat) : Int), (((((((k0 + cnts (x1.take i)) + 1) + 1) + 1) + 1) : Nat) : Int), (((((((((k0 + cnts (x1.take i)) + 1) + 1) + 1) + 1) + 1) : Nat) : Int), (((((((((k0 + cnts (x1.take i)) + 1) + 1) + 1) + 1) + 1) + 1) : Nat) : Int), ((((((((((k0 + cnts (x1.take i)) + 1) + 1) + 1) + 1) + 1) + 1) + 1) : Nat) : Int), (mtx (((((((((k0 + cnts (x1.take i)) + 1) + 1) + 1) + 1) + 1) + 1) + 1) + 1)), (mtx ((((((((((k0 + cnts (x1.take i)) + 1) + 1) + 1) + 1) + 1) + 1) + 1) + 1) + 1)), (mtx (((((((((((k0 + cnts (x1.take i)) + 1) + 1) + 1) + 1) + 1) + 1) + 1) + 1) + 1) + 1)), ((((((((((((((k0 + cnts (x1.take i)) + 1) + 1) + 1) + 1) + 1) + 1) + 1) + 1) + 1) + 1) + 1) : Nat) : Int), b58), b6, b7, b8) : T_Inst)), y1⟩ : TL T_Inst)) (by repeat (first | exact List.Mem.head _ | apply List.Mem.tail)) rfl (show ((((((((((((((half k0 i x1).set i ((((((k0 + cnts (x1.take i)) : Nat) : Int), b12), b2, b3, b4, (b51, b52, b53, b54, b55, b56, b57, b58), b6, b7, b8) : T_Inst)).set i ((((((k0 + cnts (x1.take i)) : Nat) : Int), ((((k0 + cnts (x1.take i)) + 1) : Nat) : Int)), b2, b3, b4, (b51, b52, b53, b54, b55, b56, b57, b58), b6, b7, b8) : T_Inst)).set i ((((((k0 + cnts (x1.take i)) : Nat) : Int), ((((k0 + cnts (x1.take i)) + 1) : Nat) : Int)), (((((k0 + cnts (x1.take i)) + 1) + 1) : Nat) : Int), b3, b4, (b51, b52, b53, b54, b55, b56, b57, b58), b6, b7, b8) : T_Inst)).set i ((((((k0 + cnts (x1.take i)) : Nat) : Int), ((((k0 + cnts (x1.take i)) + 1) : Nat) : Int)), (((((k0 + cnts (x1.take i)) + 1) + 1) : Nat) : Int), ((((((k0 + cnts (x1.take i)) + 1) + 1) + 1) : Nat) : Int), b4, (b51, b52, b53, b54, b55, b56, b57, b58), b6, b7, b8) : T_Inst)).set i ((((((k0 + cnts (x1.take i)) : Nat) : Int), ((((k0 + cnts (x1.take i)) + 1) : Nat) : Int)), (((((k0 + cnts (x1.take i)) + 1) + 1) : Nat) : Int), ((((((k0 + cnts (x1.take i)) + 1) + 1) + 1) : Nat) : Int), (((((((k0 + cnts (x1.take i)) + 1) + 1) + 1) + 1) : Nat) : Int), (b51, b52, b53, b54, b55, b56, b57, b58), b6, b7, b8) : T_Inst)).set i ((((((k0 + cnts (x1.take i)) : Nat) : Int), ((((k0 + cnts (x1.take i)) + 1) : Nat) : Int)), (((((k0 + cnts (x1.take i)) + 1) + 1) : Nat) : Int), ((((((k0 + cnts (x1.take i)) + 1) + 1) + 1) : Nat) : Int), (((((((k0 + cnts (x1.take i)) + 1) + 1) + 1) + 1) : Nat) : Int), (((((((((k0 + cnts (x1.take i)) + 1) + 1) + 1) + 1) + 1) : Nat) : Int), b52, b53, b54, b55, b56, b57, b58), b6, b7, b8) : T_Inst)).set i ((((((k0 + cnts (x1.take i)) : Nat) : Int), ((((k0 + cnts (x1.take i)) + 1) : Nat) : Int)), (((((k0 + cnts (x1.take i)) + 1) + 1) : Nat) : Int), ((((((k0 + cnts (x1.take i)) + 1) + 1) + 1) : Nat) : Int), (((((((k0 + cnts (x1.take i)) + 1) + 1) + 1) + 1) : Nat) : Int), (((((((((k0 + cnts (x1.take i)) + 1) + 1) + 1) + 1) + 1) : Nat) : Int), (((((((((k0 + cnts (x1.take i)) + 1) + 1) + 1) + 1) + 1) + 1) : Nat) : Int), b53, b54, b55, b56, b57, b58), b6, b7, b8) : T_Inst)).set i ((((((k0 + cnts (x1.take i)) : Nat) : Int), ((((k0 + cnts (x1.take i)) + 1) : Nat) : Int)), (((((k0 + cnts (x1.take i)) + 1) + 1) : Nat) : Int), ((((((k0 + cnts (x1.take i)) + 1) + 1) + 1) : Nat) : Int), (((((((k0 + cnts (x1.take i)) + 1) + 1) + 1) + 1) : Nat) : Int), (((((((((k0 + cnts (x1.take i)) + 1) + 1) + 1) + 1) + 1) : Nat) : Int), (((((((((k0 + cnts (x1.take i)) + 1) + 1) + 1) + 1) + 1) + 1) : Nat) : Int), ((((((((((k0 + cnts (x1.take i)) + 1) + 1) + 1) + 1) + 1) + 1) + 1) : Nat) : Int), b54, b55, b56, b57, b58), b6, b7, b8) : T_Inst)).set i ((((((k0 + cnts (x1.take i)) : Nat) : Int), ((((k0 + cnts (x1.take i)) + 1) : Nat) : Int)), (((((k0 + cnts (x1.take i)) + 1) + 1) : Nat) : Int), ((((((k0 + cnts (x1.take i)) + 1) + 1) + 1) : Nat) : Int), (((((((k0 + cnts (x1.take i)) + 1) + 1) + 1) + 1) : Nat) : Int), (((((((((k0 + cnts (x1.take i)) + 1) + 1) + 1) + 1) + 1) : Nat) : Int), (((((((((k0 + cnts (x1.take i)) + 1) + 1) + 1) + 1) + 1) + 1) : Nat) : Int), ((((((((((k0 + cnts (x1.take i)) + 1) + 1) + 1) + 1) + 1) + 1) + 1) : Nat) : Int), (mtx (((((((((k0 + cnts (x1.take i)) + 1) + 1) + 1) + 1) + 1) + 1) + 1) + 1)), b55, b56, b57, b58), b6, b7, b8) : T_Inst)).set i ((((((k0 + cnts (x1.take i)) : Nat) : Int), ((((k0 + cnts (x1.take i)) + 1) : Nat) : Int)), (((((k0 + cnts (x1.take i)) + 1) + 1) : Nat) : Int), ((((((k0 + cnts (x1.take i)) + 1) + 1) + 1) : Nat) : Int), (((((((k0 + cnts (x1.take i)) + 1) + 1) + 1) + 1) : Nat) : Int), (((((((((k0 + cnts (x1.take i)) + 1) + 1) + 1) + 1) + 1) : Nat) : Int), (((((((((k0 + cnts (x1.take i)) + 1) + 1) + 1) + 1) + 1) + 1) : Nat) : Int), ((((((((((k0 + cnts (x1.take i)) + 1) + 1) + 1) + 1) + 1) + 1) + 1) : Nat) : Int), (mtx (((((((((k0 + cnts (x1.take i)) + 1) + 1) + 1) + 1) + 1) + 1) + 1) + 1)), (mtx ((((((((((k0 + cnts (x1.take i)) + 1) + 1) + 1) + 1) + 1) + 1) + 1) + 1) + 1)), b56, b57, b58), b6, b7, b8) : T_Inst)).set i ((((((k0 + cnts (x1.take i)) : Nat) : Int), ((((k0 + cnts (x1.take i)) + 1) : Nat) : Int)), (((((k0 + cnts (x1.take i)) + 1) + 1) : Nat) : Int), ((((((k0 + cnts (x1.take i)) + 1) + 1) + 1) : Nat) : Int), (((((((k0 + cnts (x1.take i)) + 1) + 1) + 1) + 1) : Nat) : Int), (((((((((k0 + cnts (x1.take i)) + 1) + 1) + 1) + 1) + 1) : Nat) : Int), (((((((((k0 + cnts (x1.take i)) + 1) + 1) + 1) + 1) + 1) + 1) : Nat) : Int), ((((((((((k0 + cnts (x1.take i)) + 1) + 1) + 1) + 1) + 1) + 1) + 1) : Nat) : Int), (mtx (((((((((k0 + cnts (x1.take i)) + 1) + 1) + 1) + 1) + 1) + 1) + 1) + 1)), (mtx ((((((((((k0 + cnts (x1.take i)) + 1) + 1) + 1) + 1) + 1) + 1) + 1) + 1) + 1)), (mtx (((((((((((k0 + cnts (x1.take i)) + 1) + 1) + 1) + 1) + 1) + 1) + 1) + 1) + 1) + 1)), b57, b58), b6, b7, b8) : T_Inst)).set i ((((((k0 + cnts (x1.take i)) : Nat) : Int), ((((k0 + cnts (x1.take i)) + 1) : Nat) : Int)), (((((k0 + cnts (x1.take i)) + 1) + 1) : Nat) : Int), ((((((k0 + cnts (x1.take i)) + 1) + 1) + 1) : Nat) : Int), (((((((k0 + cnts (x1.take i)) + 1) + 1) + 1) + 1) : Nat) : Int), (((((((((k0 + cnts (x1.take i)) + 1) + 1) + 1) + 1) + 1) : Nat) : Int), (((((((((k0 + cnts (x1.take i)) + 1) + 1) + 1) + 1) + 1) + 1) : Nat) : Int), ((((((((((k0 + cnts (x1.take i)) + 1) + 1) + 1) + 1) + 1) + 1) + 1) : Nat) : Int), (mtx (((((((((k0 + cnts (x1.take i)) + 1) + 1) + 1) + 1) + 1) + 1) + 1) + 1)), (mtx ((((((((((k0 + cnts (x1.take i)) + 1) + 1) + 1) + 1) + 1) + 1) + 1) + 1) + 1)), (mtx (((((((((((k0 + cnts (x1.take i)) + 1) + 1) + 1) + 1) + 1) + 1) + 1) + 1) + 1) + 1)), ((((((((((((((k0 + cnts (x1.take i)) + 1) + 1) + 1) + 1) + 1) + 1) + 1) + 1) + 1) + 1) + 1) : Nat) : Int), b58), b6, b7, b8) : T_Inst)) : List T_Inst)[i]? = some ((((((k0 + cnts (x1.take i)) : Nat) : Int), ((((k0 + cnts (x1.take i)) + 1) : Nat) : Int)), (((((k0 + cnts (x1.take i)) + 1) + 1) : Nat) : Int), ((((((k0 + cnts (x1.take i)) + 1) + 1) + 1) : Nat) : Int), (((((((k0 + cnts (x1.take i)) + 1) + 1) + 1) + 1) : Nat) : Int), (((((((((k0 + cnts (x1.take i)) + 1) + 1) + 1) + 1) + 1) : Nat) : Int), (((((((((k0 + cnts (x1.take i)) + 1) + 1) + 1) + 1) + 1) + 1) : Nat) : Int), ((((((((((k0 + cnts (x1.take i)) + 1) + 1) + 1) + 1) + 1) + 1) + 1) : Nat) : Int), (mtx (((((((((k0 + cnts (x1.take i)) + 1) + 1) + 1) + 1) + 1) + 1) + 1) + 1)), (mtx ((((((((((k0 + cnts (x1.take i)) + 1) + 1) + 1) + 1) + 1) + 1) + 1) + 1) + 1)), (mtx (((((((((((k0 + cnts (x1.take i)) + 1) + 1) + 1) + 1) + 1) + 1) + 1) + 1) + 1) + 1)), ((((((((((((((k0 + cnts (x1.take i)) + 1) + 1) + 1) + 1) + 1) + 1) + 1) + 1) + 1) + 1) + 1) : Nat) : Int), b58), b6, b7, b8) : T_Inst) from set_get (set_get (set_get (set_get (set_get (set_get (set_get (set_get (set_get (set_get (set_get (set_get (half_get (k := k0) hu)))))))))))))) one48 rfl ?_
      refine L_move rfl rfl ?_
      refine L_conv (fun w h => el_out (L := (⟨some ⟨g, 0, none⟩, c1, e1, (((((((((((((half k0 i x1).set i ((((((k0 + cnts (x1.take i)) : Nat) : Int), b12), b2, b3, b4, (b51, b52, b53, b54, b55, b56, b57, b58), b6, b7, b8) : T_Inst)).set i ((((((k0 + cnts (x1.take i)) : Nat) : Int), ((((k0 + cnts (x1.take i)) + 1) : Nat) : Int)), b2, b3, b4, (b51, b52, b53, b54, b55, b56, b57, b58), b6, b7, b8) : T_Inst)).set i ((((((k0 + cnts (x1.take i)) : Nat) : Int), ((((k0 + cnts (x1.take i)) + 1) : Nat) : Int)), (((((k0 + cnts (x1.take i)) + 1) + 1) : Nat) : Int), b3, b4, (b51, b52, b53, b54, b55, b56, b57, b58), b6, b7, b8) : T_Inst)).set i ((((((k0 + cnts (x1.take i)) : Nat) : Int), ((((k0 + cnts (x1.take i)) + 1) : Nat) : Int)), (((((k0 + cnts (x1.take i)) + 1) + 1) : Nat) : Int), ((((((k0 + cnts (x1.take i)) + 1) + 1) + 1) : Nat) : Int), b4, (b51, b52, b53, b54, b55, b56, b57, b58), b6, b7, b8) : T_Inst)).set i ((((((k0 + cnts (x1.take i)) : Nat) : Int), ((((k0 + cnts (x1.take i)) + 1) : Nat) : Int)), (((((k0 + cnts (x1.take i)) + 1) + 1) : Nat) : Int), ((((((k0 + cnts (x1.take i)) + 1) + 1) + 1) : Nat) : Int), (((((((k0 + cnts (x1.take i)) + 1) + 1) + 1) + 1) : Nat) : Int), (b51, b52, b53, b54, b55, b56, b57, b58), b6, b7, b8) : T_Inst)).set i ((((((k0 + cnts (x1.take i)) : Nat) : Int), ((((k0 + cnts (x1.take i)) + 1) : Nat) : Int)), (((((k0 + cnts (x1.take i)) + 1) + 1) : Nat) : Int), ((((((k0 + cnts (x1.take i)) + 1) + 1) + 1) : Nat) : Int), (((((((k0 + cnts (x1.take i)) + 1) + 1) + 1) + 1) : Nat) : Int), (((((((((k0 + cnts (x1.take i)) + 1) + 1) + 1) + 1) + 1) : Nat) : Int), b52, b53, b54, b55, b56, b57, b58), b6, b7, b8) : T_Inst)).set i ((((((k0 + cnts (x1.take i)) : Nat) : Int), ((((k0 + cnts (x1.take i)) + 1) : Nat) : Int)), (((((k0 + cnts (x1.take i)) + 1) + 1) : Nat) : Int), ((((((k0 + cnts (x1.take i)) + 1) + 1) + 1) : Nat) : Int), (((((((k0 + cnts (x1.take i)) + 1) + 1) + 1) + 1) : Nat) : Int), (((((((((k0 + cnts (x1.take i)) + 1) + 1) + 1) + 1) + 1) : Nat) : Int), (((((((((k0 + cnts (x1.take i)) + 1) + 1) + 1) + 1) + 1) + 1) : Nat) : Int), b53, b54, b55, b56, b57, b58), b6, b7, b8) : T_Inst)).set i ((((((k0 + cnts (x1.take i)) : Nat) : Int), ((((k0 + cnts (x1.take i)) + 1) : Nat) : Int)), (((((k0 + cnts (x1.take i)) + 1) + 1) : Nat) : Int), ((((((k0 + cnts (x1.take i)) + 1) + 1) + 1) : Nat) : Int), (((((((k0 + cnts (x1.take i)) + 1) + 1) + 1) + 1) : Nat) : Int), (((((((((k0 + cnts (x1.take i)) + 1) + 1) + 1) + 1) + 1) : Nat) : Int), (((((((((k0 + cnts (x1.take i)) + 1) + 1) + 1) + 1) + 1) + 1) : Nat) : Int), ((((((((((k0 + cnts (x1.take i)) + 1) + 1) + 1) + 1) + 1) + 1) + 1) : Nat) : Int), b54, b55, b56, b57, b58), b6, b7, b8) : T_Inst)).set i ((((((k0 + cnts (x1.take i)) : Nat) : Int), ((((k0 + cnts (x1.take i)) + 1) : Nat) : Int)), (((((k0 + cnts (x1.take i)) + 1) + 1) : Nat) : Int), ((((((k0 + cnts (x1.take i)) + 1) + 1) + 1) : Nat) : Int), (((((((k0 + cnts (x1.take i)) + 1) + 1) + 1) + 1) : Nat) : Int), (((((((((k0 + cnts (x1.take i)) + 1) + 1) + 1) + 1) + 1) : Nat) : Int), (((((((((k0 + cnts (x1.take i)) + 1) + 1) + 1) + 1) + 1) + 1) : Nat) : Int), ((((((((((k0 + cnts (x1.take i)) + 1) + 1) + 1) + 1) + 1) + 1) + 1) : Nat) : Int), (mtx (((((((((k0 + cnts (x1.take i)) + 1) + 1) + 1) + 1) + 1) + 1) + 1) + 1)), b55, b56, b57, b58), b6, b7, b8) : T_Inst)).set i ((((((k0 + cnts (x1.take i)) : Nat) : Int), ((((k0 + cnts (x1.take i)) + 1) : Nat) : Int)), (((((k0 + cnts (x1.take i)) + 1) + 1) : Nat) : Int), ((((((k0 + cnts (x1.take i)) + 1) + 1) + 1) : Nat) : Int), (((((((k0 + cnts (x1.take i)) + 1) + 1) + 1) + 1) : Nat) : Int), (((((((((k0 + cnts (x1.take i)) + 1) + 1) + 1) + 1) + 1) : Nat) : Int), (((((((((k0 + cnts (x1.take i)) + 1) + 1) + 1) + 1) + 1) + 1) : Nat) : Int), ((((((((((k0 + cnts (x1.take i)) + 1) + 1) + 1) + 1) + 1) + 1) + 1) : Nat) : Int), (mtx (((((((((k0 + cnts (x1.take i)) + 1) + 1) + 1) + 1) + 1) + 1) + 1) + 1)), (mtx ((((((((((k0 + cnts (x1.take i)) + 1) + 1) + 1) + 1) + 1) + 1) + 1) + 1) + 1)), b56, b57, b58), b6, b7, b8) : T_Inst)).set i ((((((k0 + cnts (x1.take i)) : Nat) : Int), ((((k0 + cnts (x1.take i)) + 1) : Nat) : Int)), (((((k0 + cnts (x1.take i)) + 1) + 1) : Nat) : Int), ((((((k0 + cnts (x1.take i)) + 1) + 1) + 1) : Nat) : Int), (((((((k0 + cnts (x1.take i)) + 1) + 1) + 1) + 1) : Nat) : Int), (((((((((k0 + cnts (x1.take i)) + 1) + 1) + 1) + 1) + 1) : Nat) : Int), (((((((((k0 + cnts (x1.take i)) + 1) + 1) + 1) + 1) + 1) + 1) : Nat) : Int), ((((((((((k0 + cnts (x1.take i)) + 1) + 1) + 1) + 1) + 1) + 1) + 1) : Nat) : Int), (mtx (((((((((k0 + cnts (x1.take i)) + 1) + 1) + 1) + 1) + 1) + 1) + 1) + 1)), (mtx ((((((((((k0 + cnts (x1.take i)) + 1) + 1) + 1) + 1) + 1) + 1) + 1) + 1) + 1)), (mtx (((((((((((k0 + cnts (x1.take i)) + 1) + 1) + 1) + 1) + 1) + 1) + 1) + 1) + 1) + 1)), b57, b58), b6, b7, b8) : T_Inst)).set i ((((((k0 + cnts (x1.take i)) : Nat) : Int), ((((k0 + cnts (x1.take i)) + 1) : Nat) : Int)), (((((k0 + cnts (x1.take i)) + 1) + 1) : Nat) : Int), ((((((k0 + cnts (x1.take i)) + 1) + 1) + 1) : Nat) : Int), (((((((k0 + cnts (x1.take i)) + 1) + 1) + 1) + 1) : Nat) : Int), (((((((((k0 + cnts (x1.take i)) + 1) + 1) + 1) + 1) + 1) : Nat) : Int), (((((((((k0 + cnts (x1.take i)) + 1) + 1) + 1) + 1) + 1) + 1) : Nat) : Int), ((((((((((k0 + cnts (x1.take i)) + 1) + 1) + 1) + 1) + 1) + 1) + 1) : Nat) : Int), (mtx (((((((((k0 + cnts (x1.take i)) + 1) + 1) + 1) + 1) + 1) + 1) + 1) + 1)), (mtx ((((((((((k0 + cnts (x1.take i)) + 1) + 1) + 1) + 1) + 1) + 1) + 1) + 1) + 1)), (mtx (((((((((((k0 + cnts (x1.take i)) + 1) + 1) + 1) + 1) + 1) + 1) + 1) + 1) + 1) + 1)), ((((((((((((((k0 + cnts (x1.take i)) + 1) + 1) + 1) + 1) + 1) + 1) + 1) + 1) + 1) + 1) + 1) : Nat) : Int), b58), b6, b7, b8) : T_Inst)), y1⟩ : TL T_Inst)) (show ((((((((((((((half k0 i x1).set i ((((((k0 + cnts (x1.take i)) : Nat) : Int), b12), b2, b3, b4, (b51, b52, b53, b54, b55, b56, b57, b58), b6, b7, b8) : T_Inst)).set i ((((((k0 + cnts (x1.take i)) : Nat) : Int), ((((k0 + cnts (x1.take i)) + 1) : Nat) : Int)), b2, b3, b4, (b51, b52, b53, b54, b55, b56, b57, b58), b6, b7, b8) : T_Inst)).set i ((((((k0 + cnts (x1.take i)) : Nat) : Int), ((((k0 + cnts (x1.take i)) + 1) : Nat) : Int)), (((((k0 + cnts (x1.take i)) + 1) + 1) : Nat) : Int), b3, b4, (b51, b52, b53, b54, b55, b56, b57, b58), b6, b7, b8) : T_Inst)).set i ((((((k0 + cnts (x1.take i)) : Nat) : Int), ((((k0 + cnts (x1.take i)) + 1) : Nat) : Int)), (((((k0 + cnts (x1.take i)) + 1) + 1) : Nat) : Int), ((((((k0 + cnts (x1.take i)) + 1) + 1) + 1) : Nat) : Int), b4, (b51, b52, b53, b54, b55, b56, b57, b58), b6, b7, b8) : T_Inst)).set i ((((((k0 + cnts (x1.take i)) : Nat) : Int), ((((k0 + cnts (x1.take i)) + 1) : Nat) : Int)), (((((k0 + cnts (x1.take i)) + 1) + 1) : Nat) : Int), ((((((k0 + cnts (x1.take i)) + 1) + 1) + 1) : Nat) : Int), (((((((k0 + cnts (x1.take i)) + 1) + 1) + 1) + 1) : Nat) : Int), (b51, b52, b53, b54, b55, b56, b57, b58), b6, b7, b8) : T_Inst)).set i ((((((k0 + cnts (x1.take i)) : Nat) : Int), ((((k0 + cnts (x1.take i)) + 1) : Nat) : Int)), (((((k0 + cnts (x1.take i)) + 1) + 1) : Nat) : Int), ((((((k0 + cnts (x1.take i)) + 1) + 1) + 1) : Nat) : Int), (((((((k0 + cnts (x1.take i)) + 1) + 1) + 1) + 1) : Nat) : Int), (((((((((k0 + cnts (x1.take i)) + 1) + 1) + 1) + 1) + 1) : Nat) : Int), b52, b53, b54, b55, b56, b57, b58), b6, b7, b8) : T_Inst)).set i ((((((k0 + cnts (x1.take i)) : Nat) : Int), ((((k0 + cnts (x1.take i)) + 1) : Nat) : Int)), (((((k0 + cnts (x1.take i)) + 1) + 1) : Nat) : Int), ((((((k0 + cnts (x1.take i)) + 1) + 1) + 1) : Nat) : Int), (((((((k0 + cnts (x1.take i)) + 1) + 1) + 1) + 1) : Nat) : Int), (((((((((k0 + cnts (x1.take i)) + 1) + 1) + 1) + 1) + 1) : Nat) : Int), (((((((((k0 + cnts (x1.take i)) + 1) + 1) + 1) + 1) + 1) + 1) : Nat) : Int), b53, b54, b55, b56, b57, b58), b6, b7, b8) : T_Inst)).set i ((((((k0 + cnts (x1.take i)) : Nat) : Int), ((((k0 + cnts (x1.take i)) + 1) : Nat) : Int)), (((((k0 + cnts (x1.take i)) + 1) + 1) : Nat) : Int), ((((((k0 + cnts (x1.take i)) + 1) + 1) + 1) : Nat) : Int), (((((((k0 + cnts (x1.take i)) + 1) + 1) + 1) + 1) : Nat) : Int), (((((((((k0 + cnts (x1.take i)) + 1) + 1) + 1) + 1) + 1) : Nat) : Int), (((((((((k0 + cnts (x1.take i)) + 1) + 1) + 1) + 1) + 1) + 1) : Nat) : Int), ((((((((((k0 + cnts (x1.take i)) + 1) + 1) + 1) + 1) + 1) + 1) + 1) : Nat) : Int), b54, b55, b56, b57, b58), b6, b7, b8) : T_Inst)).set i ((((((k0 + cnts (x1.take i)) : Nat) : Int), ((((k0 + cnts (x1.take i)) + 1) : Nat) : Int)), (((((k0 + cnts (x1.take i)) + 1) + 1) : Nat) : Int), ((((((k0 + cnts (x1.take i)) + 1) + 1) + 1) : Nat) : Int), (((((((k0 + cnts (x1.take i)) + 1) + 1) + 1) + 1) : Nat) : Int), (((((((((k0 + cnts (x1.take i)) + 1) + 1) + 1) + 1) + 1) : Nat) : Int), (((((((((k0 + cnts (x1.take i)) + 1) + 1) + 1) + 1) + 1) + 1) : Nat) : Int), ((((((((((k0 + cnts (x1.take i)) + 1) + 1) + 1) + 1) + 1) + 1) + 1) : Nat) : Int), (mtx (((((((((k0 + cnts (x1.take i)) + 1) + 1) + 1) + 1) + 1) + 1) + 1) + 1)), b55, b56, b57, b58), b6, b7, b8) : T_Inst)).set i ((((((k0 + cnts (x1.take i)) : Nat) : Int), ((((k0 + cnts (x1.take i)) + 1) : Nat) : Int)), (((((k0 + cnts (x1.take i)) + 1) + 1) : Nat) : Int), ((((((k0 + cnts (x1.take i)) + 1) + 1) + 1) : Nat) : Int), (((((((k0 + cnts (x1.take i)) + 1) + 1) + 1) + 1) : Nat) : Int), (((((((((k0 + cnts (x1.take i)) + 1) + 1) + 1) + 1) + 1) : Nat) : Int), (((((((((k0 + cnts (x1.take i)) + 1) + 1) + 1) + 1) + 1) + 1) : Nat) : Int), ((((((((((k0 + cnts (x1.take i)) + 1) + 1) + 1) + 1) + 1) + 1) + 1) : Nat) : Int), (mtx (((((((((k0 + cnts (x1.take i)) + 1) + 1) + 1) + 1) + 1) + 1) + 1) + 1)), (mtx ((((((((((k0 + cnts (x1.take i)) + 1) + 1) + 1) + 1) + 1) + 1) + 1) + 1) + 1)), b56, b57, b58), b6, b7, b8) : T_Inst)).set i ((((((k0 + cnts (x1.take i)) : Nat) : Int), ((((k0 + cnts (x1.take i)) + 1) : Nat) : Int)), (((((k0 + cnts (x1.take i)) + 1) + 1) : Nat) : Int), ((((((k0 + cnts (x1.take i)) + 1) + 1) + 1) : Nat) : Int), (((((((k0 + cnts (x1.take i)) + 1) + 1) + 1) + 1) : Nat) : Int), (((((((((k0 + cnts (x1.take i)) + 1) + 1) + 1) + 1) + 1) : Nat) : Int), (((((((((k0 + cnts (x1.take i)) + 1) + 1) + 1) + 1) + 1) + 1) : Nat) : Int), ((((((((((k0 + cnts (x1.take i)) + 1) + 1) + 1) + 1) + 1) + 1) + 1) : Nat) : Int), (mtx (((((((((k0 + cnts (x1.take i)) + 1) + 1) + 1) + 1) + 1) + 1) + 1) + 1)), (mtx ((((((((((k0 + cnts (x1.take i)) + 1) + 1) + 1) + 1) + 1) + 1) + 1) + 1) + 1)), (mtx (((((((((((k0 + cnts (x1.take i)) + 1) + 1) + 1) + 1) + 1) + 1) + 1) + 1) + 1) + 1)), b57, b58), b6, b7, b8) : T_Inst)).set i ((((((k0 + cnts (x1.take i)) : Nat) : Int), ((((k0 + cnts (x1.take i)) + 1) : Nat) : Int)), (((((k0 + cnts (x1.take i)) + 1) + 1) : Nat) : Int), ((((((k0 + cnts (x1.take i)) + 1) + 1) + 1) : Nat) : Int), (((((((k0 + cnts (x1.take i)) + 1) + 1) + 1) + 1) : Nat) : Int), (((((((((k0 + cnts (x1.take i)) + 1) + 1) + 1) + 1) + 1) : Nat) : Int), (((((((((k0 + cnts (x1.take i)) + 1) + 1) + 1) + 1) + 1) + 1) : Nat) : Int), ((((((((((k0 + cnts (x1.take i)) + 1) + 1) + 1) + 1) + 1) + 1) + 1) : Nat) : Int), (mtx (((((((((k0 + cnts (x1.take i)) + 1) + 1) + 1) + 1) + 1) + 1) + 1) + 1)), (mtx ((((((((((k0 + cnts (x1.take i)) + 1) + 1) + 1) + 1) + 1) + 1) + 1) + 1) + 1)), (mtx (((((((((((k0 + cnts (x1.take i)) + 1) + 1) + 1) + 1) + 1) + 1) + 1) + 1) + 1) + 1)), ((((((((((((((k0 + cnts (x1.take i)) + 1) + 1) + 1) + 1) + 1) + 1) + 1) + 1) + 1) + 1) + 1) : Nat) : Int), b58), b6, b7, b8) : T_Inst)) : List T_Inst)[i]? = some ((((((k0 + cnts (x1.take i)) : Nat) : Int), ((((k0 + cnts (x1.take i)) + 1) : Nat) : Int)), (((((k0 + cnts (x1.take i)) + 1) + 1) : Nat) : Int), ((((((k0 + cnts (x1.take i)) + 1) + 1) + 1) : Nat) : Int), (((((((k0 + cnts (x1.take i)) + 1) + 1) + 1) + 1) : Nat) : Int), (((((((((k0 + cnts (x1.take i)) + 1) + 1) + 1) + 1) + 1) : Nat) : Int), (((((((((k0 + cnts (x1.take i)) + 1) + 1) + 1) + 1) + 1) + 1) : Nat) : Int), ((((((((((k0 + cnts (x1.take i)) + 1) + 1) + 1) + 1) + 1) + 1) + 1) : Nat) : Int), (mtx (((((((((k0 + cnts (x1.take i)) + 1) + 1) + 1) + 1) + 1) + 1) + 1) + 1)), (mtx ((((((((((k0 + cnts (x1.take i)) + 1) + 1) + 1) + 1) + 1) + 1) + 1) + 1) + 1)), (mtx (((((((((((k0 + cnts (x1.take i)) + 1) + 1) + 1) + 1) + 1) + 1) + 1) + 1) + 1) + 1)), ((((((((((((((k0 + cnts (x1.take i)) + 1) + 1) + 1) + 1) + 1) + 1) + 1) + 1) + 1) + 1) + 1) : Nat) : Int), b58), b6, b7, b8) : T_Inst) from set_get (set_get (set_get (set_get (set_get (set_get (set_get (set_get (set_get (set_get (set_get (set_get (half_get (k := k0) hu))))))))))))) (frontPick (by repeat (first | exact Pick.here _ | apply Pick.there)) h)) ?_
      refine L_conv (fun w h => tree_pair h) ?_
      refine L_conv (fun w h => frontPick (Pick.there _ (Pick.here _)) h) ?_
      refine L_conv (fun w h => tree_pair h) ?_
      refine L_conv (fun w h => frontPick (Pick.there _ (Pick.here _)) h) ?_
      refine L_conv (fun w h => tree_pair h) ?_
      refine L_conv (fun w h => frontPick (Pick.there _ (Pick.here _)) h) ?_
      refine L_conv (fun w h => tree_pair h) ?_
      refine L_conv (fun w h => frontPick (Pick.there _ (Pick.here _)) h) ?_
      refine L_conv (fun w h => tree_pair h) ?_
      refine L_conv (fun w h => tree_pair h) ?_
      refine L_conv (fun w h => frontPick (Pick.there _ (Pick.here _)) h) ?_
      refine L_conv (fun w h => tree_pair h) ?_
      refine L_conv (fun w h => frontPick (Pick.there _ (Pick.here _)) h) ?_
      refine L_conv (fun w h => tree_pair h) ?_
      refine L_conv (fun w h => frontPick (Pick.there _ (Pick.here _)) h) ?_
      refine L_conv (fun w h => tree_pair h) ?_
      refine L_conv (fun w h => frontPick (Pick.there _ (Pick.here _)) h) ?_
      refine L_conv (fun w h => tree_pair h) ?_
      refine L_conv (fun w h => frontPick (Pick.there _ (Pick.here _)) h) ?_
      refine L_conv (fun w h => tree_pair h) ?_
      refine L_conv (fun w h => frontPick (Pick.there _ (Pick.here _)) h) ?_
      refine L_conv (fun w h => tree_pair h) ?_
      refine L_conv (fun w h => frontPick (Pick.there _ (Pick.here _)) h) ?_
      refine L_call1 rfl fn73 rfl (Pick.here _) (by exact fun w hw => markStringS_spec w b58 (((((((((((((k0 + cnts (x1.take i)) + 1) + 1) + 1) + 1) + 1) + 1) + 1) + 1) + 1) + 1) + 1) + 1) (by omega) (by omega)) ?_
      rintro v M1 ⟨hv, rfl⟩
      subst hv
      simp only [List.cons_append, List.nil_append]
      refine L_conv (fun w h => pairPick (Pick.here _) h) ?_
      refine L_conv (fun w h => pairPick (Pick.here _) h) ?_
      refine L_conv (fun w h => pairPick (Pick.here _) h) ?_
      refine L_conv (fun w h => pairPick (Pick.here _) h) ?_
      refine L_conv (fun w h => pairPick (Pick.here _) h) ?_
      refine L_conv (fun w h => pairPick (Pick.here _) h) ?_
      refine L_conv (fun w h => pairPick (Pick.here _) h) ?_
      refine L_conv (fun w h => pairFront (Pick.here _) h) ?_
      refine L_conv (fun w h => pairPick (Pick.here _) h) ?_
      refine L_conv (fun w h => pairPick (Pick.here _) h) ?_
      refine L_conv (fun w h => pairPick (Pick.here _) h) ?_
      refine L_conv (fun w h => pairPick (Pick.here _) h) ?_
      refine L_conv (M' := treeH (⟨some ⟨g, 0, none⟩, c1, e1, ((((((((((((((half k0 i x1).set i ((((((k0 + cnts (x1.take i)) : Nat) : Int), b12), b2, b3, b4, (b51, b52, b53, b54, b55, b56, b57, b58), b6, b7, b8) : T_Inst)).set i ((((((k0 + cnts (x1.take i)) : Nat) : Int), ((((k0 + cnts (x1.take i)) + 1) : Nat) : Int)), b2, b3, b4, (b51, b52, b53, b54, b55, b56, b57, b58), b6, b7, b8) : T_Inst)).set i ((((((k0 + cnts (x1.take i)) : Nat) : Int), ((((k0 + cnts (x1.take i)) + 1) : Nat) : Int)), (((((k0 + cnts (x1.take i)) + 1) + 1) : Nat) : Int), b3, b4, (b51, b52, b53, b54, b55, b56, b57, b58), b6, b7, b8) : T_Inst)).set i ((((((k0 + cnts (x1.take i)) : Nat) : Int), ((((k0 + cnts (x1.take i)) + 1) : Nat) : Int)), (((((k0 + cnts (x1.take i)) + 1) + 1) : Nat) : Int), ((((((k0 + cnts (x1.take i)) + 1) + 1) + 1) : Nat) : Int), b4, (b51, b52, b53, b54, b55, b56, b57, b58), b6, b7, b8) : T_Inst)).set i ((((((k0 + cnts (x1.take i)) : Nat) : Int), ((((k0 + cnts (x1.take i)) + 1) : Nat) : Int)), (((((k0 + cnts (x1.take i)) + 1) + 1) : Nat) : Int), ((((((k0 + cnts (x1.take i)) + 1) + 1) + 1) : Nat) : Int), (((((((k0 + cnts (x1.take i)) + 1) + 1) + 1) + 1) : Nat) : Int), (b51, b52, b53, b54, b55, b56, b57, b58), b6, b7, b8) : T_Inst)).set i ((((((k0 + cnts (x1.take i)) : Nat) : Int), ((((k0 + cnts (x1.take i)) + 1) : Nat) : Int)), (((((k0 + cnts (x1.take i)) + 1) + 1) : Nat) : Int), ((((((k0 + cnts (x1.take i)) + 1) + 1) + 1) : Nat) : Int), (((((((k0 + cnts (x1.take i)) + 1) + 1) + 1) + 1) : Nat) : Int), (((((((((k0 + cnts (x1.take i)) + 1) + 1) + 1) + 1) + 1) : Nat) : Int), b52, b53, b54, b55, b56, b57, b58), b6, b7, b8) : T_Inst)).set i ((((((k0 + cnts (x1.take i)) : Nat) : Int), ((((k0 + cnts (x1.take i)) + 1) : Nat) : Int)), (((((k0 + cnts (x1.take i)) + 1) + 1) : Nat) : Int), ((((((k0 + cnts (x1.take i)) + 1) + 1) + 1) : Nat) : Int), (((((((k0 + cnts (x1.take i)) + 1) + 1) + 1) + 1) : Nat) : Int), (((((((((k0 + cnts (x1.take i)) + 1) + 1) + 1) + 1) + 1) : Nat) : Int), (((((((((k0 + cnts (x1.take i)) + 1) + 1) + 1) + 1) + 1) + 1) : Nat) : Int), b53, b54, b55, b56, b57, b58), b6, b7, b8) : T_Inst)).set i ((((((k0 + cnts (x1.take i)) : Nat) : Int), ((((k0 + cnts (x1.take i)) + 1) : Nat) : Int)), (((((k0 + cnts (x1.take i)) + 1) + 1) : Nat) : Int), ((((((k0 + cnts (x1.take i)) + 1) + 1) + 1) : Nat) : Int), (((((((k0 + cnts (x1.take i)) + 1) + 1) + 1) + 1) : Nat) : Int), (((((((((k0 + cnts (x1.take i)) + 1) + 1) + 1) + 1) + 1) : Nat) : Int), (((((((((k0 + cnts (x1.take i)) + 1) + 1) + 1) + 1) + 1) + 1) : Nat) : Int), ((((((((((k0 + cnts (x1.take i)) + 1) + 1) + 1) + 1) + 1) + 1) + 1) : Nat) : Int), b54, b55, b56, b57, b58), b6, b7, b8) : T_Inst)).set i ((((((k0 + cnts (x1.take i)) : Nat) : Int), ((((k0 + cnts (x1.take i)) + 1) : Nat) : Int)), (((((k0 + cnts (x1.take i)) + 1) + 1) : Nat) : Int), ((((((k0 + cnts (x1.take i)) + 1) + 1) + 1) : Nat) : Int), (((((((k0 + cnts (x1.take i)) + 1) + 1) + 1) + 1) : Nat) : Int), (((((((((k0 + cnts (x1.take i)) + 1) + 1) + 1) + 1) + 1) : Nat) : Int), (((((((((k0 + cnts (x1.take i)) + 1) + 1) + 1) + 1) + 1) + 1) : Nat) : Int), ((((((((((k0 + cnts (x1.take i)) + 1) + 1) + 1) + 1) + 1) + 1) + 1) : Nat) : Int), (mtx (((((((((k0 + cnts (x1.take i)) + 1) + 1) + 1) + 1) + 1) + 1) + 1) + 1)), b55, b56, b57, b58), b6, b7, b8) : T_Inst)).set i ((((((k0 + cnts (x1.take i)) : Nat) : Int), ((((k0 + cnts (x1.take i)) + 1) : Nat) : Int)), (((((k0 + cnts (x1.take i)) + 1) + 1) : Nat) : Int), ((((((k0 + cnts (x1.take i)) + 1) + 1) + 1) : Nat) : Int), (((((((k0 + cnts (x1.take i)) + 1) + 1) + 1) + 1) : Nat) : Int), (((((((((k0 + cnts (x1.take i)) + 1) + 1) + 1) + 1) + 1) : Nat) : Int), (((((((((k0 + cnts (x1.take i)) + 1) + 1) + 1) + 1) + 1) + 1) : Nat) : Int), ((((((((((k0 + cnts (x1.take i)) + 1) + 1) + 1) + 1) + 1) + 1) + 1) : Nat) : Int), (mtx (((((((((k0 + cnts (x1.take i)) + 1) + 1) + 1) + 1) + 1) + 1) + 1) + 1)), (mtx ((((((((((k0 + cnts (x1.take i)) + 1) + 1) + 1) + 1) + 1) + 1) + 1) + 1) + 1)), b56, b57, b58), b6, b7, b8) : T_Inst)).set i ((((((k0 + cnts (x1.take i)) : Nat) : Int), ((((k0 + cnts (x1.take i)) + 1) : Nat) : Int)), (((((k0 + cnts (x1.take i)) + 1) + 1) : Nat) : Int), ((((((k0 + cnts (x1.take i)) + 1) + 1) + 1) : Nat) : Int), (((((((k0 + cnts (x1.take i)) + 1) + 1) + 1) + 1) : Nat) : Int), (((((((((k0 + cnts (x1.take i)) + 1) + 1) + 1) + 1) + 1) : Nat) : Int), (((((((((k0 + cnts (x1.take i)) + 1) + 1) + 1) + 1) + 1) + 1) : Nat) : Int), ((((((((((k0 + cnts (x1.take i)) + 1) + 1) + 1) + 1) + 1) + 1) + 1) : Nat) : Int), (mtx (((((((((k0 + cnts (x1.take i)) + 1) + 1) + 1) + 1) + 1) + 1) + 1) + 1)), (mtx ((((((((((k0 + cnts (x1.take i)) + 1) + 1) + 1) + 1) + 1) + 1) + 1) + 1) + 1)), (mtx (((((((((((k0 + cnts (x1.take i)) + 1) + 1) + 1) + 1) + 1) + 1) + 1) + 1) + 1) + 1)), b57, b58), b6, b7, b8) : T_Inst)).set i ((((((k0 + cnts (x1.take i)) : Nat) : Int), ((((k0 + cnts (x1.take i)) + 1) : Nat) : Int)), (((((k0 + cnts (x1.take i)) + 1) + 1) : Nat) : Int), ((((((k0 + cnts (x1.take i)) + 1) + 1) + 1) : Nat) : Int), (((((((k0 + cnts (x1.take i)) + 1) + 1) + 1) + 1) : Nat) : Int), (((((((((k0 + cnts (x1.take i)) + 1) + 1) + 1) + 1) + 1) : Nat) : Int), (((((((((k0 + cnts (x1.take i)) + 1) + 1) + 1) + 1) + 1) + 1) : Nat) : Int), ((((((((((k0 + cnts (x1.take i)) + 1) + 1) + 1) + 1) + 1) + 1) + 1) : Nat) : Int), (mtx (((((((((k0 + cnts (x1.take i)) + 1) + 1) + 1) + 1) + 1) + 1) + 1) + 1)), (mtx ((((((((((k0 + cnts (x1.take i)) + 1) + 1) + 1) + 1) + 1) + 1) + 1) + 1) + 1)), (mtx (((((((((((k0 + cnts (x1.take i)) + 1) + 1) + 1) + 1) + 1) + 1) + 1) + 1) + 1) + 1)), ((((((((((((((k0 + cnts (x1.take i)) + 1) + 1) + 1) + 1) + 1) + 1) + 1) + 1) + 1) + 1) + 1) : Nat) : Int), b58), b6, b7, b8) : T_Inst)).set i ((((((k0 + cnts (x1.take i)) : Nat) : Int), ((((k0 + cnts (x1.take i)) + 1) : Nat) : Int)), (((((k0 + cnts (x1.take i)) + 1) + 1) : Nat) : Int), ((((((k0 + cnts (x1.take i)) + 1) + 1) + 1) : Nat) : Int), (((((((k0 + cnts (x1.take i)) + 1) + 1) + 1) + 1) : Nat) : Int), (((((((((k0 + cnts (x1.take i)) + 1) + 1) + 1) + 1) + 1) : Nat) : Int), (((((((((k0 + cnts (x1.take i)) + 1) + 1) + 1) + 1) + 1) + 1) : Nat) : Int), ((((((((((k0 + cnts (x1.take i)) + 1) + 1) + 1) + 1) + 1) + 1) + 1) : Nat) : Int), (mtx (((((((((k0 + cnts (x1.take i)) + 1) + 1) + 1) + 1) + 1) + 1) + 1) + 1)), (mtx ((((((((((k0 + cnts (x1.take i)) + 1) + 1) + 1) + 1) + 1) + 1) + 1) + 1) + 1)), (mtx (((((((((((k0 + cnts (x1.take i)) + 1) + 1) + 1) + 1) + 1) + 1) + 1) + 1) + 1) + 1)), ((((((((((((((k0 + cnts (x1.take i)) + 1) + 1) + 1) + 1) + 1) + 1) + 1) + 1) + 1) + 1) + 1) : Nat) : Int), (Mk.mkd (((((((((((((k0 + cnts (x1.take i)) + 1) + 1) + 1) + 1) + 1) + 1) + 1) + 1) + 1) + 1) + 1) + 1) b58)), b6, b7, b8) : T_Inst)), y1⟩ : TL T_Inst) :: _) (fun w h => el_in (L := (⟨some ⟨g, 0, none⟩, c1, e1, (((((((((((((half k0 i x1).set i ((((((k0 + cnts (x1.take i)) : Nat) : Int), b12), b2, b3, b4, (b51, b52, b53, b54, b55, b56, b57, b58), b6, b7, b8) : T_Inst)).set i ((((((k0 + cnts (x1.take i)) : Nat) : Int), ((((k0 + cnts (x1.take i)) + 1) : Nat) : Int)), b2, b3, b4, (b51, b52, b53, b54, b55, b56, b57, b58), b6, b7, b8) : T_Inst)).set i ((((((k0 + cnts (x1.take i)) : Nat) : Int), ((((k0 + cnts (x1.take i)) + 1) : Nat) : Int)), (((((k0 + cnts (x1.take i)) + 1) + 1) : Nat) : Int), b3, b4, (b51, b52, b53, b54, b55, b56, b57, b58), b6, b7, b8) : T_Inst)).set i ((((((k0 + cnts (x1.take i)) : Nat) : Int), ((((k0 + cnts (x1.take i)) + 1) : Nat) : Int)), (((((k0 + cnts (x1.take i)) + 1) + 1) : Nat) : Int), ((((((k0 + cnts (x1.take i)) + 1) + 1) + 1) : Nat) : Int), b4, (b51, b52, b53, b54, b55, b56, b57, b58), b6, b7, b8) : T_Inst)).set i ((((((k0 + cnts (x1.take i)) : Nat) : Int), ((((k0 + cnts (x1.take i)) + 1) : Nat) : Int)), (((((k0 + cnts (x1.take i)) + 1) + 1) : Nat) : Int), ((((((k0 + cnts (x1.take i)) + 1) + 1) + 1) : Nat) : Int), (((((((k0 + cnts (x1.take i)) + 1) + 1) + 1) + 1) : Nat) : Int), (b51, b52, b53, b54, b55, b56, b57, b58), b6, b7, b8) : T_Inst)).set i ((((((k0 + cnts (x1.take i)) : Nat) : Int), ((((k0 + cnts (x1.take i)) + 1) : Nat) : Int)), (((((k0 + cnts (x1.take i)) + 1) + 1) : Nat) : Int), ((((((k0 + cnts (x1.take i)) + 1) + 1) + 1) : Nat) : Int), (((((((k0 + cnts (x1.take i)) + 1) + 1) + 1) + 1) : Nat) : Int), (((((((((k0 + cnts (x1.take i)) + 1) + 1) + 1) + 1) + 1) : Nat) : Int), b52, b53, b54, b55, b56, b57, b58), b6, b7, b8) : T_Inst)).set i ((((((k0 + cnts (x1.take i)) : Nat) : Int), ((((k0 + cnts (x1.take i)) + 1) : Nat) : Int)), (((((k0 + cnts (x1.take i)) + 1) + 1) : Nat) : Int), ((((((k0 + cnts (x1.take i)) + 1) + 1) + 1) : Nat) : Int), (((((((k0 + cnts (x1.take i)) + 1) + 1) + 1) + 1) : Nat) : Int), (((((((((k0 + cnts (x1.take i)) + 1) + 1) + 1) + 1) + 1) : Nat) : Int), (((((((((k0 + cnts (x1.take i)) + 1) + 1) + 1) + 1) + 1) + 1) : Nat) : Int), b53, b54, b55, b56, b57, b58), b6, b7, b8) : T_Inst)).set i ((((((k0 + cnts (x1.take i)) : Nat) : Int), ((((k0 + cnts (x1.take i)) + 1) : Nat) : Int)), (((((k0 + cnts (x1.take i)) + 1) + 1) : Nat) : Int), ((((((k0 + cnts (x1.take i)) + 1) + 1) + 1) : Nat) : Int), (((((((k0 + cnts (x1.take i)) + 1) + 1) + 1) + 1) : Nat) : Int), (((((((((k0 + cnts (x1.take i)) + 1) + 1) + 1) + 1) + 1) : Nat) : Int), (((((((((k0 + cnts (x1.take i)) + 1) + 1) + 1) + 1) + 1) + 1) : Nat) : Int), ((((((((((k0 + cnts (x1.take i)) + 1) + 1) + 1) + 1) + 1) + 1) + 1) : Nat) : Int), b54, b55, b56, b57, b58), b6, b7, b8) : T_Inst)).set i ((((((k0 + cnts (x1.take i)) : Nat) : Int), ((((k0 + cnts (x1.take i)) + 1) : Nat) : Int)), (((((k0 + cnts (x1.take i)) + 1) + 1) : Nat) : Int), ((((((k0 + cnts (x1.take i)) + 1) + 1) + 1) : Nat) : Int), (((((((k0 + cnts (x1.take i)) + 1) + 1) + 1) + 1) : Nat) : Int), (((((((((k0 + cnts (x1.take i)) + 1) + 1) + 1) + 1) + 1) : Nat) : Int), (((((((((k0 + cnts (x1.take i)) + 1) + 1) + 1) + 1) + 1) + 1) : Nat) : Int), ((((((((((k0 + cnts (x1.take i)) + 1) + 1) + 1) + 1) + 1) + 1) + 1) : Nat) : Int), (mtx (((((((((k0 + cnts (x1.take i)) + 1) + 1) + 1) + 1) + 1) + 1) + 1) + 1)), b55, b56, b57, b58), b6, b7, b8) : T_Inst)).set i ((((((k0 + cnts (x1.take i)) : Nat) : Int), ((((k0 + cnts (x1.take i)) + 1) : Nat) : Int)), (((((k0 + cnts (x1.take i)) + 1) + 1) : Nat) : Int), ((((((k0 + cnts (x1.take i)) + 1) + 1) + 1) : Nat) : Int), (((((((k0 + cnts (x1.take i)) + 1) + 1) + 1) + 1) : Nat) : Int), (((((((((k0 + cnts (x1.take i)) + 1) + 1) + 1) + 1) + 1) : Nat) : Int), (((((((((k0 + cnts (x1.take i)) + 1) + 1) + 1) + 1) + 1) + 1) : Nat) : Int), ((((((((((k0 + cnts (x1.take i)) + 1) + 1) + 1) + 1) + 1) + 1) + 1) : Nat) : Int), (mtx (((((((((k0 + cnts (x1.take i)) + 1) + 1) + 1) + 1) + 1) + 1) + 1) + 1)), (mtx ((((((((((k0 + cnts (x1.take i)) + 1) + 1) + 1) + 1) + 1) + 1) + 1) + 1) + 1)), b56, b57, b58), b6, b7, b8) : T_Inst)).set i ((((((k0 + cnts (x1.take i)) : Nat) : Int), ((((k0 + cnts (x1.take i)) + 1) : Nat) : Int)), (((((k0 + cnts (x1.take i)) + 1) + 1) : Nat) : Int), ((((((k0 + cnts (x1.take i)) + 1) + 1) + 1) : Nat) : Int), (((((((k0 + cnts (x1.take i)) + 1) + 1) + 1) + 1) : Nat) : Int), (((((((((k0 + cnts (x1.take i)) + 1) + 1) + 1) + 1) + 1) : Nat) : Int), (((((((((k0 + cnts (x1.take i)) + 1) + 1) + 1) + 1) + 1) + 1) : Nat) : Int), ((((((((((k0 + cnts (x1.take i)) + 1) + 1) + 1) + 1) + 1) + 1) + 1) : Nat) : Int), (mtx (((((((((k0 + cnts (x1.take i)) + 1) + 1) + 1) + 1) + 1) + 1) + 1) + 1)), (mtx ((((((((((k0 + cnts (x1.take i)) + 1) + 1) + 1) + 1) + 1) + 1) + 1) + 1) + 1)), (mtx (((((((((((k0 + cnts (x1.take i)) + 1) + 1) + 1) + 1) + 1) + 1) + 1) + 1) + 1) + 1)), b57, b58), b6, b7, b8) : T_Inst)).set i ((((((k0 + cnts (x1.take i)) : Nat) : Int), ((((k0 + cnts (x1.take i)) + 1) : Nat) : Int)), (((((k0 + cnts (x1.take i)) + 1) + 1) : Nat) : Int), ((((((k0 + cnts (x1.take i)) + 1) + 1) + 1) : Nat) : Int), (((((((k0 + cnts (x1.take i)) + 1) + 1) + 1) + 1) : Nat) : Int), (((((((((k0 + cnts (x1.take i)) + 1) + 1) + 1) + 1) + 1) : Nat) : Int), (((((((((k0 + cnts (x1.take i)) + 1) + 1) + 1) + 1) + 1) + 1) : Nat) : Int), ((((((((((k0 + cnts (x1.take i)) + 1) + 1) + 1) + 1) + 1) + 1) + 1) : Nat) : Int), (mtx (((((((((k0 + cnts (x1.take i)) + 1) + 1) + 1) + 1) + 1) + 1) + 1) + 1)), (mtx ((((((((((k0 + cnts (x1.take i)) + 1) + 1) + 1) + 1) + 1) + 1) + 1) + 1) + 1)), (mtx (((((((((((k0 + cnts (x1.take i)) + 1) + 1) + 1) + 1) + 1) + 1) + 1) + 1) + 1) + 1)), ((((((((((((((k0 + cnts (x1.take i)) + 1) + 1) + 1) + 1) + 1) + 1) + 1) + 1) + 1) + 1) + 1) : Nat) : Int), b58), b6, b7, b8) : T_Inst)), y1⟩ : TL T_Inst)) (show ((((((((((((((half k0 i x1).set i ((((((k0 + cnts (x1.take i)) : Nat) : Int), b12), b2, b3, b4, (b51, b52, b53, b54, b55, b56, b57, b58), b6, b7, b8) : T_Inst)).set i ((((((k0 + cnts (x1.take i)) : Nat) : Int), ((((k0 + cnts (x1.take i)) + 1) : Nat) : Int)), b2, b3, b4, (b51, b52, b53, b54, b55, b56, b57, b58), b6, b7, b8) : T_Inst)).set i ((((((k0 + cnts (x1.take i)) : Nat) : Int), ((((k0 + cnts (x1.take i)) + 1) : Nat) : Int)), (((((k0 + cnts (x1.take i)) + 1) + 1) : Nat) : Int), b3, b4, (b51, b52, b53, b54, b55, b56, b57, b58), b6, b7, b8) : T_Inst)).set i ((((((k0 + cnts (x1.take i)) : Nat) : Int), ((((k0 + cnts (x1.take i)) + 1) : Nat) : Int)), (((((k0 + cnts (x1.take i)) + 1) + 1) : Nat) : Int), ((((((k0 + cnts (x1.take i)) + 1) + 1) + 1) : Nat) : Int), b4, (b51, b52, b53, b54, b55, b56, b57, b58), b6, b7, b8) : T_Inst)).set i ((((((k0 + cnts (x1.take i)) : Nat) : Int), ((((k0 + cnts (x1.take i)) + 1) : Nat) : Int)), (((((k0 + cnts (x1.take i)) + 1) + 1) : Nat) : Int), ((((((k0 + cnts (x1.take i)) + 1) + 1) + 1) : Nat) : Int), (((((((k0 + cnts (x1.take i)) + 1) + 1) + 1) + 1) : Nat) : Int), (b51, b52, b53, b54, b55, b56, b57, b58), b6, b7, b8) : T_Inst)).set i ((((((k0 + cnts (x1.take i)) : Nat) : Int), ((((k0 + cnts (x1.take i)) + 1) : Nat) : Int)), (((((k0 + cnts (x1.take i)) + 1) + 1) : Nat) : Int), ((((((k0 + cnts (x1.take i)) + 1) + 1) + 1) : Nat) : Int), (((((((k0 + cnts (x1.take i)) + 1) + 1) + 1) + 1) : Nat) : Int), (((((((((k0 + cnts (x1.take i)) + 1) + 1) + 1) + 1) + 1) : Nat) : Int), b52, b53, b54, b55, b56, b57, b58), b6, b7, b8) : T_Inst)).set i ((((((k0 + cnts (x1.take i)) : Nat) : Int), ((((k0 + cnts (x1.take i)) + 1) : Nat) : Int)), (((((k0 + cnts (x1.take i)) + 1) + 1) : Nat) : Int), ((((((k0 + cnts (x1.take i)) + 1) + 1) + 1) : Nat) : Int), (((((((k0 + cnts (x1.take i)) + 1) + 1) + 1) + 1) : Nat) : Int), (((((((((k0 + cnts (x1.take i)) + 1) + 1) + 1) + 1) + 1) : Nat) : Int), (((((((((k0 + cnts (x1.take i)) + 1) + 1) + 1) + 1) + 1) + 1) : Nat) : Int), b53, b54, b55, b56, b57, b58), b6, b7, b8) : T_Inst)).set i ((((((k0 + cnts (x1.take i)) : Nat) : Int), ((((k0 + cnts (x1.take i)) + 1) : Nat) : Int)), (((((k0 + cnts (x1.take i)) + 1) + 1) : Nat) : Int), ((((((k0 + cnts (x1.take i)) + 1) + 1) + 1) : Nat) : Int), (((((((k0 + cnts (x1.take i)) + 1) + 1) + 1) + 1) : Nat) : Int), (((((((((k0 + cnts (x1.take i)) + 1) + 1) + 1) + 1) + 1) : Nat) : Int), (((((((((k0 + cnts (x1.take i)) + 1) + 1) + 1) + 1) + 1) + 1) : Nat) : Int), ((((((((((k0 + cnts (x1.take i)) + 1) + 1) + 1) + 1) + 1) + 1) + 1) : Nat) : Int), b54, b55, b56, b57, b58), b6, b7, b8) : T_Inst)).set i ((((((k0 + cnts (x1.take i)) : Nat) : Int), ((((k0 + cnts (x1.take i)) + 1) : Nat) : Int)), (((((k0 + cnts (x1.take i)) + 1) + 1) : Nat) : Int), ((((((k0 + cnts (x1.take i)) + 1) + 1) + 1) : Nat) : Int), (((((((k0 + cnts (x1.take i)) + 1) + 1) + 1) + 1) : Nat) : Int), (((((((((k0 + cnts (x1.take i)) + 1) + 1) + 1) + 1) + 1) : Nat) : Int), (((((((((k0 + cnts (x1.take i)) + 1) + 1) + 1) + 1) + 1) + 1) : Nat) : Int), ((((((((((k0 + cnts (x1.take i)) + 1) + 1) + 1) + 1) + 1) + 1) + 1) : Nat) : Int), (mtx (((((((((k0 + cnts (x1.take i)) + 1) + 1) + 1) + 1) + 1) + 1) + 1) + 1)), b55, b56, b57, b58), b6, b7, b8) : T_Inst)).set i ((((((k0 + cnts (x1.take i)) : Nat) : Int), ((((k0 + cnts (x1.take i)) + 1) : Nat) : Int)), (((((k0 + cnts (x1.take i)) + 1) + 1) : Nat) : Int), ((((((k0 + cnts (x1.take i)) + 1) + 1) + 1) : Nat) : Int), (((((((k0 + cnts (x1.take i)) + 1) + 1) + 1) + 1) : Nat) : Int), (((((((((k0 + cnts (x1.take i)) + 1) + 1) + 1) + 1) + 1) : Nat) : Int), (((((((((k0 + cnts (x1.take i)) + 1) + 1) + 1) + 1) + 1) + 1) : Nat) : Int), ((((((((((k0 + cnts (x1.take i)) + 1) + 1) + 1) + 1) + 1) + 1) + 1) : Nat) : Int), (mtx (((((((((k0 + cnts (x1.take i)) + 1) + 1) + 1) + 1) + 1) + 1) + 1) + 1)), (mtx ((((((((((k0 + cnts (x1.take i)) + 1) + 1) + 1) + 1) + 1) + 1) + 1) + 1) + 1)), b56, b57, b58), b6, b7, b8) : T_Inst)).set i ((((((k0 + cnts (x1.take i)) : Nat) : Int), ((((k0 + cnts (x1.take i)) + 1) : Nat) : Int)), (((((k0 + cnts (x1.take i)) + 1) + 1) : Nat) : Int), ((((((k0 + cnts (x1.take i)) + 1) + 1) + 1) : Nat) : Int), (((((((k0 + cnts (x1.take i)) + 1) + 1) + 1) + 1) : Nat) : Int), (((((((((k0 + cnts (x1.take i)) + 1) + 1) + 1) + 1) + 1) : Nat) : Int), (((((((((k0 + cnts (x1.take i)) + 1) + 1) + 1) + 1) + 1) + 1) : Nat) : Int), ((((((((((k0 + cnts (x1.take i)) + 1) + 1) + 1) + 1) + 1) + 1) + 1) : Nat) : Int), (mtx (((((((((k0 + cnts (x1.take i)) + 1) + 1) + 1) + 1) + 1) + 1) + 1) + 1)), (mtx ((((((((((k0 + cnts (x1.take i)) + 1) + 1) + 1) + 1) + 1) + 1) + 1) + 1) + 1)), (mtx (((((((((((k0 + cnts (x1.take i)) + 1) + 1) + 1) + 1) + 1) + 1) + 1) + 1) + 1) + 1)), b57, b58), b6, b7, b8) : T_Inst)).set i ((((((k0 + cnts (x1.take i)) : Nat) : Int), ((((k0 + cnts (x1.take i)) + 1) : Nat) : Int)), (((((k0 + cnts (x1.take i)) + 1) + 1) : Nat) : Int), ((((((k0 + cnts (x1.take i)) + 1) + 1) + 1) : Nat) : Int), (((((((k0 + cnts (x1.take i)) + 1) + 1) + 1) + 1) : Nat) : Int), (((((((((k0 + cnts (x1.take i)) + 1) + 1) + 1) + 1) + 1) : Nat) : Int), (((((((((k0 + cnts (x1.take i)) + 1) + 1) + 1) + 1) + 1) + 1) : Nat) : Int), ((((((((((k0 + cnts (x1.take i)) + 1) + 1) + 1) + 1) + 1) + 1) + 1) : Nat) : Int), (mtx (((((((((k0 + cnts (x1.take i)) + 1) + 1) + 1) + 1) + 1) + 1) + 1) + 1)), (mtx ((((((((((k0 + cnts (x1.take i)) + 1) + 1) + 1) + 1) + 1) + 1) + 1) + 1) + 1)), (mtx (((((((((((k0 + cnts (x1.take i)) + 1) + 1) + 1) + 1) + 1) + 1) + 1) + 1) + 1) + 1)), ((((((((((((((k0 + cnts (x1.take i)) + 1) + 1) + 1) + 1) + 1) + 1) + 1) + 1) + 1) + 1) + 1) : Nat) : Int), b58), b6, b7, b8) : T_Inst)) : List T_Inst)[i]? = some ((((((k0 + cnts (x1.take i)) : Nat) : Int), ((((k0 + cnts (x1.take i)) + 1) : Nat) : Int)), (((((k0 + cnts (x1.take i)) + 1) + 1) : Nat) : Int), ((((((k0 + cnts (x1.take i)) + 1) + 1) + 1) : Nat) : Int), (((((((k0 + cnts (x1.take i)) + 1) + 1) + 1) + 1) : Nat) : Int), (((((((((k0 + cnts (x1.take i)) + 1) + 1) + 1) + 1) + 1) : Nat) : Int), (((((((((k0 + cnts (x1.take i)) + 1) + 1) + 1) + 1) + 1) + 1) : Nat) : Int), ((((((((((k0 + cnts (x1.take i)) + 1) + 1) + 1) + 1) + 1) + 1) + 1) : Nat) : Int), (mtx (((((((((k0 + cnts (x1.take i)) + 1) + 1) + 1) + 1) + 1) + 1) + 1) + 1)), (mtx ((((((((((k0 + cnts (x1.take i)) + 1) + 1) + 1) + 1) + 1) + 1) + 1) + 1) + 1)), (mtx (((((((((((k0 + cnts (x1.take i)) + 1) + 1) + 1) + 1) + 1) + 1) + 1) + 1) + 1) + 1)), ((((((((((((((k0 + cnts (x1.take i)) + 1) + 1) + 1) + 1) + 1) + 1) + 1) + 1) + 1) + 1) + 1) : Nat) : Int), b58), b6, b7, b8) : T_Inst) from set_get (set_get (set_get (set_get (set_get (set_get (set_get (set_get (set_get (set_get (set_get (set_get (half_get (k := k0) hu))))))))))))) (by simp only [cells_pair, cells_mkTL]) h) ?_
      refine L_assign rfl rfl ?_
      refine L_nil ?_
      refine W_seq ?_
      refine W_region ?_
      refine L_move rfl rfl ?_
      refine L_move rfl rfl ?_
      refine L_move rfl rfl ?_
      refine L_indexAddr rfl rfl rfl el114 rfl (by omega) ?_
      refine L_fieldAddr rfl rfl fld267_5 ?_
      refine L_storeElF (fo := 13) (x' := ((((((k0 + cnts (x1.take i)) : Nat) : Int), ((((k0 + cnts (x1.take i)) + 1) : Nat) : Int)), (((((k0 + cnts (x1.take i)) + 1) + 1) : Nat) : Int), ((((((k0 + cnts (x1.take i)) + 1) + 1) + 1) : Nat) : Int), (((((((k0 + cnts (x1.take i)) + 1) + 1) + 1) + 1) : Nat) : Int), (((((((((k0 + cnts (x1.take i)) + 1) + 1) + 1) + 1) + 1) : Nat) : Int), (((((((((k0 + cnts (x1.take i)) + 1) + 1) + 1) + 1) + 1) + 1) : Nat) : Int), ((((((((((k0 + cnts (x1.take i)) + 1) + 1) + 1) + 1) + 1) + 1) + 1) : Nat) : Int), (mtx (((((((((k0 + cnts (x1.take i)) + 1) + 1) + 1) + 1) + 1) + 1) + 1) + 1)), (mtx ((((((((((k0 + cnts (x1.take i)) + 1) + 1) + 1) + 1) + 1) + 1) + 1) + 1) + 1)), (mtx (((((((((((k0 + cnts (x1.take i)) + 1) + 1) + 1) + 1) + 1) + 1) + 1) + 1) + 1) + 1)), ((((((((((((((k0 + cnts (x1.take i)) + 1) + 1) + 1) + 1) + 1) + 1) + 1) + 1) + 1) + 1) + 1) : Nat) : Int), (Mk.mkd (((((((((((((k0 + cnts (x1.take i)) + 1) + 1) + 1) + 1) + 1) + 1) + 1) + 1) + 1) + 1) + 1) + 1) b58)), ((((((((((((((((k0 + cnts (x1.take i)) + 1) + 1) + 1) + 1) + 1) + 1) + 1) + 1) + 1) + 1) + 1) + 1) + Mk.cnt b58) : Nat) : Int), b7, b8) : T_Inst)) rfl rfl (by repeat (first | exact Pick.here _ | apply Pick.there)) rfl (show (((((((((((((((half k0 i x1).set i ((((((k0 + cnts (x1.take i)) : Nat) : Int), b12), b2, b3, b4, (b51, b52, b53, b54, b55, b56, b57, b58), b6, b7, b8) : T_Inst)).set i ((((((k0 + cnts (x1.take i)) : Nat) : Int), ((((k0 + cnts (x1.take i)) + 1) : Nat) : Int)), b2, b3, b4, (b51, b52, b53, b54, b55, b56, b57, b58), b6, b7, b8) : T_Inst)).set i ((((((k0 + cnts (x1.take i)) : Nat) : Int), ((((k0 + cnts (x1.take i)) + 1) : Nat) : Int)), (((((k0 + cnts (x1.take i)) + 1) + 1) : Nat) : Int), b3, b4, (b51, b52, b53, b54, b55, b56, b57, b58), b6, b7, b8) : T_Inst)).set i ((((((k0 + cnts (x1.take i)) : Nat) : Int), ((((k0 + cnts (x1.take i)) + 1) : Nat) : Int)), (((((k0 + cnts (x1.take i)) + 1) + 1) : Nat) : Int), ((((((k0 + cnts (x1.take i)) + 1) + 1) + 1) : Nat) : Int), b4, (b51, b52, b53, b54, b55, b56, b57, b58), b6, b7, b8) : T_Inst)).set i ((((((k0 + cnts (x1.take i)) : Nat) : Int), ((((k0 + cnts (x1.take i)) + 1) : Nat) : Int)), (((((k0 + cnts (x1.take i)) + 1) + 1) : Nat) : Int), ((((((k0 + cnts (x1.take i)) + 1) + 1) + 1) : Nat) : Int), (((((((k0 + cnts (x1.take i)) + 1) + 1) + 1) + 1) : Nat) : Int), (b51, b52, b53, b54, b55, b56, b57, b58), b6, b7, b8) : T_Inst)).set i ((((((k0 + cnts (x1.take i)) : Nat) : Int), ((((k0 + cnts (x1.take i)) + 1) : Nat) : Int)), (((((k0 + cnts (x1.take i)) + 1) + 1) : Nat) : Int), ((((((k0 + cnts (x1.take i)) + 1) + 1) + 1) : Nat) : Int), (((((((k0 + cnts (x1.take i)) + 1) + 1) + 1) + 1) : Nat) : Int), (((((((((k0 + cnts (x1.take i)) + 1) + 1) + 1) + 1) + 1) : Nat) : Int), b52, b53, b54, b55, b56, b57, b58), b6, b7, b8) : T_Inst)).set i ((((((k0 + cnts (x1.take i)) : Nat) : Int), ((((k0 + cnts (x1.take i)) + 1) : Nat) : Int)), (((((k0 + cnts (x1.take i)) + 1) + 1) : Nat) : Int), ((((((k0 + cnts (x1.take i)) + 1) + 1) + 1) : Nat) : Int), (((((((k0 + cnts (x1.take i)) + 1) + 1) + 1) + 1) : Nat) : Int), (((((((((k0 + cnts (x1.take i)) + 1) + 1) + 1) + 1) + 1) : Nat) : Int), (((((((((k0 + cnts (x1.take i)) + 1) + 1) + 1) + 1) + 1) + 1) : Nat) : Int), b53, b54, b55, b56, b57, b58), b6, b7, b8) : T_Inst)).set i ((((((k0 + cnts (x1.take i)) : Nat) : Int), ((((k0 + cnts (x1.take i)) + 1) : Nat) : Int)), (((((k0 + cnts (x1.take i)) + 1) + 1) : Nat) : Int), ((((((k0 + cnts (x1.take i)) + 1) + 1) + 1) : Nat) : Int), (((((((k0 + cnts (x1.take i)) + 1) + 1) + 1) + 1) : Nat) : Int), (((((((((k0 + cnts (x1.take i)) + 1) + 1) + 1) + 1) + 1) : Nat) : Int), (((((((((k0 + cnts (x1.take i)) + 1) + 1) + 1) + 1) + 1) + 1) : Nat) : Int), ((((((((((k0 + cnts (x1.take i)) + 1) + 1) + 1) + 1) + 1) + 1) + 1) : Nat) : Int), b54, b55, b56, b57, b58), b6, b7, b8) : T_Inst)).set i ((((((k0 + cnts (x1.take i)) : Nat) : Int), ((((k0 + cnts (x1.take i)) + 1) : Nat) : Int)), (((((k0 + cnts (x1.take i)) + 1) + 1) : Nat) : Int), ((((((k0 + cnts (x1.take i)) + 1) + 1) + 1) : Nat) : Int), (((((((k0 + cnts (x1.take i)) + 1) + 1) + 1) + 1) : Nat) : Int), (((((((((k0 + cnts (x1.take i)) + 1) + 1) + 1) + 1) + 1) : Nat) : Int), (((((((((k0 + cnts (x1.take i)) + 1) + 1) + 1) + 1) + 1) + 1) : Nat) : Int), ((((((((((k0 + cnts (x1.take i)) + 1) + 1) + 1) + 1) + 1) + 1) + 1) : Nat) : Int), (mtx (((((((((k0 + cnts (x1.take i)) + 1) + 1) + 1) + 1) + 1) + 1) + 1) + 1)), b55, b56, b57, b58), b6, b7, b8) : T_Inst)).set i ((((((k0 + cnts (x1.take i)) : Nat) : Int), ((((k0 + cnts (x1.take i)) + 1) : Nat) : Int)), (((((k0 + cnts (x1.take i)) + 1) + 1) : Nat) : Int), ((((((k0 + cnts (x1.take i)) + 1) + 1) + 1) : Nat) : Int), (((((((k0 + cnts (x1.take i)) + 1) + 1) + 1) + 1) : Nat) : Int), (((((((((k0 + cnts (x1.take i)) + 1) + 1) + 1) + 1) + 1) : Nat) : Int), (((((((((k0 + cnts (x1.take i)) + 1) + 1) + 1) + 1) + 1) + 1) : Nat) : Int), ((((((((((k0 + cnts (x1.take i)) + 1) + 1) + 1) + 1) + 1) + 1) + 1) : Nat) : Int), (mtx (((((((((k0 + cnts (x1.take i)) + 1) + 1) + 1) + 1) + 1) + 1) + 1) + 1)), (mtx ((((((((((k0 + cnts (x1.take i)) + 1) + 1) + 1) + 1) + 1) + 1) + 1) + 1) + 1)), b56, b57, b58), b6, b7, b8) : T_Inst)).set i ((((((k0 + cnts (x1.take i)) : Nat) : Int), ((((k0 + cnts (x1.take i)) + 1) : Nat) : Int)), (((((k0 + cnts (x1.take i)) + 1) + 1) : Nat) : Int), ((((((k0 + cnts (x1.take i)) + 1) + 1) + 1) : Nat) : Int), (((((((k0 + cnts (x1.take i)) + 1) + 1) + 1) + 1) : Nat) : Int), (((((((((k0 + cnts (x1.take i)) + 1) + 1) + 1) + 1) + 1) : Nat) : Int), (((((((((k0 + cnts (x1.take i)) + 1) + 1) + 1) + 1) + 1) + 1) : Nat) : Int), ((((((((((k0 + cnts (x1.take i)) + 1) + 1) + 1) + 1) + 1) + 1) + 1) : Nat) : Int), (mtx (((((((((k0 + cnts (x1.take i)) + 1) + 1) + 1) + 1) + 1) + 1) + 1) + 1)), (mtx ((((((((((k0 + cnts (x1.take i)) + 1) + 1) + 1) + 1) + 1) + 1) + 1) + 1) + 1)), (mtx (((((((((((k0 + cnts (x1.take i)) + 1) + 1) + 1) + 1) + 1) + 1) + 1) + 1) + 1) + 1)), b57, b58), b6, b7, b8) : T_Inst)).set i ((((((k0 + cnts (x1.take i)) : Nat) : Int), ((((k0 + cnts (x1.take i)) + 1) : Nat) : Int)), (((((k0 + cnts (x1.take i)) + 1) + 1) : Nat) : Int), ((((((k0 + cnts (x1.take i)) + 1) + 1) + 1) : Nat) : Int), (((((((k0 + cnts (x1.take i)) + 1) + 1) + 1) + 1) : Nat) : Int), (((((((((k0 + cnts (x1.take i)) + 1) + 1) + 1) + 1) + 1) : Nat) : Int), (((((((((k0 + cnts (x1.take i)) + 1) + 1) + 1) + 1) + 1) + 1) : Nat) : Int), ((((((((((k0 + cnts (x1.take i)) + 1) + 1) + 1) + 1) + 1) + 1) + 1) : Nat) : Int), (mtx (((((((((k0 + cnts (x1.take i)) + 1) + 1) + 1) + 1) + 1) + 1) + 1) + 1)), (mtx ((((((((((k0 + cnts (x1.take i)) + 1) + 1) + 1) + 1) + 1) + 1) + 1) + 1) + 1)), (mtx (((((((((((k0 + cnts (x1.take i)) + 1) + 1) + 1) + 1) + 1) + 1) + 1) + 1) + 1) + 1)), ((((((((((((((k0 + cnts (x1.take i)) + 1) + 1) + 1) + 1) + 1) + 1) + 1) + 1) + 1) + 1) + 1) : Nat) : Int), b58), b6, b7, b8) : T_Inst)).set i ((((((k0 + cnts (x1.take i)) : Nat) : Int), ((((k0 + cnts (x1.take i)) + 1) : Nat) : Int)), (((((k0 + cnts (x1.take i)) + 1) + 1) : Nat) : Int), ((((((k0 + cnts (x1.take i)) + 1) + 1) + 1) : Nat) : Int), (((((((k0 + cnts (x1.take i)) + 1) + 1) + 1) + 1) : Nat) : Int), (((((((((k0 + cnts (x1.take i)) + 1) + 1) + 1) + 1) + 1) : Nat) : Int), (((((((((k0 + cnts (x1.take i)) + 1) + 1) + 1) + 1) + 1) + 1) : Nat) : Int), ((((((((((k0 + cnts (x1.take i)) + 1) + 1) + 1) + 1) + 1) + 1) + 1) : Nat) : Int), (mtx (((((((((k0 + cnts (x1.take i)) + 1) + 1) + 1) + 1) + 1) + 1) + 1) + 1)), (mtx ((((((((((k0 + cnts (x1.take i)) + 1) + 1) + 1) + 1) + 1) + 1) + 1) + 1) + 1)), (mtx (((((((((((k0 + cnts (x1.take i)) + 1) + 1) + 1) + 1) + 1) + 1) + 1) + 1) + 1) + 1)), ((((((((((((((k0 + cnts (x1.take i)) + 1) + 1) + 1) + 1) + 1) + 1) + 1) + 1) + 1) + 1) + 1) : Nat) : Int), (Mk.mkd (((((((((((((k0 + cnts (x1.take i)) + 1) + 1) + 1) + 1) + 1) + 1) + 1) + 1) + 1) + 1) + 1) + 1) b58)), b6, b7, b8) : T_Inst)) : List T_Inst)[i]? = some ((((((k0 + cnts (x1.take i)) : Nat) : Int), ((((k0 + cnts (x1.take i)) + 1) : Nat) : Int)), (((((k0 + cnts (x1.take i)) + 1) + 1) : Nat) : Int), ((((((k0 + cnts (x1.take i)) + 1) + 1) + 1) : Nat) : Int), (((((((k0 + cnts (x1.take i)) + 1) + 1) + 1) + 1) : Nat) : Int), (((((((((k0 + cnts (x1.take i)) + 1) + 1) + 1) + 1) + 1) : Nat) : Int), (((((((((k0 + cnts (x1.take i)) + 1) + 1) + 1) + 1) + 1) + 1) : Nat) : Int), ((((((((((k0 + cnts (x1.take i)) + 1) + 1) + 1) + 1) + 1) + 1) + 1) : Nat) : Int), (mtx (((((((((k0 + cnts (x1.take i)) + 1) + 1) + 1) + 1) + 1) + 1) + 1) + 1)), (mtx ((((((((((k0 + cnts (x1.take i)) + 1) + 1) + 1) + 1) + 1) + 1) + 1) + 1) + 1)), (mtx (((((((((((k0 + cnts (x1.take i)) + 1) + 1) + 1) + 1) + 1) + 1) + 1) + 1) + 1) + 1)), ((((((((((((((k0 + cnts (x1.take i)) + 1) + 1) + 1) + 1) + 1) + 1) + 1) + 1) + 1) + 1) + 1) : Nat) : Int), (Mk.mkd (((((((((((((k0 + cnts (x1.take i)) + 1) + 1) + 1) + 1) + 1) + 1) + 1) + 1) + 1) + 1) + 1) + 1) b58)), b6, b7, b8) : T_Inst) from set_get (set_get (set_get (set_get (set_get (set_get (set_get (set_get (set_get (set_get (set_get (set_get (set_get (half_get (k := k0) hu)))))))))))))) rfl rfl (by decide) rfl (fun w h => by exact ⟨⟨h.1.1, h.1.2⟩, h.2.1, h.2.2.1, h.2.2.2.1, ⟨h.2.2.2.2.1.1, h.2.2.2.2.1.2.1, h.2.2.2.2.1.2.2.1, h.2.2.2.2.1.2.2.2.1, h.2.2.2.2.1.2.2.2.2.1, h.2.2.2.2.1.2.2.2.2.2.1, h.2.2.2.2.1.2.2.2.2.2.2.1, h.2.2.2.2.1.2.2.2.2.2.2.2⟩, (by exact trivial), h.2.2.2.2.2.2.1, h.2.2.2.2.2.2.2⟩) one3 ?_
      refine L_nil ?_
      refine W_seq ?_
      refine W_region ?_
      refine L_move rfl rfl ?_
      refine L_binV rfl rfl rfl (bv_addR (by unfold inR; omega)) ?_
      refine L_assign rfl rfl ?_
      refine L_nil ?_
      rw [show ((((((((((((((((k0 + cnts (x1.take i)) + 1) + 1) + 1) + 1) + 1) + 1) + 1) + 1) + 1) + 1) + 1) + 1) + Mk.cnt b58) : Nat) : Int) + 1 = ((((((((((((((((k0 + cnts (x1.take i)) + 1) + 1) + 1) + 1) + 1) + 1) + 1) + 1) + 1) + 1) + 1) + 1) + Mk.cnt b58) + 1 : Nat) : Int) from rfl]
      refine W_seq ?_
      refine W_region ?_
      refine L_move rfl rfl ?_
      refine L_move rfl rfl ?_
      refine L_indexAddr rfl rfl rfl el114 rfl (by omega) ?_
      refine L_fieldAddr rfl rfl fld267_6 ?_
      refine L_load rfl rfl (by exact RdC.el (L := (⟨some ⟨g, 0, none⟩, c1, e1, (((((((((((((((half k0 i x1).set i ((((((k0 + cnts (x1.take i)) : Nat) : Int), b12), b2, b3, b4, (b51, b52, b53, b54, b55, b56, b57, b58), b6, b7, b8) : T_Inst)).set i ((((((k0 + cnts (x1.take i)) : Nat) : Int), ((((k0 + cnts (x1.take i)) + 1) : Nat) : Int)), b2, b3, b4, (b51, b52, b53, b54, b55, b56, b57, b58), b6, b7, b8) : T_Inst)).set i ((((((k0 + cnts (x1.take i)) : Nat) : Int), ((((k0 + cnts (x1.take i)) + 1) : Nat) : Int)), (((((k0 + cnts (x1.take i)) + 1) + 1) : Nat) : Int), b3, b4, (b51, b52, b53, b54, b55, b56, b57, b58), b6, b7, b8) : T_Inst)).set i ((((((k0 + cnts (x1.take i)) : Nat) : Int), ((((k0 + cnts (x1.take i)) + 1) : Nat) : Int)), (((((k0 + cnts (x1.take i)) + 1) + 1) : Nat) : Int), ((((((k0 + cnts (x1.take i)) + 1) + 1) + 1) : Nat) : Int), b4, (b51, b52, b53, b54, b55, b56, b57, b58), b6, b7, b8) : T_Inst)).set i ((((((k0 + cnts (x1.take i)) : Nat) : Int), ((((k0 + cnts (x1.take i)) + 1) : Nat) : Int)), (((((k0 + cnts (x1.take i)) + 1) + 1) : Nat) : Int), ((((((k0 + cnts (x1.take i)) + 1) + 1) + 1) : Nat) : Int), (((((((k0 + cnts (x1.take i)) + 1) + 1) + 1) + 1) : Nat) : Int), (b51, b52, b53, b54, b55, b56, b57, b58), b6, b7, b8) : T_Inst)).set i ((((((k0 + cnts (x1.take i)) : Nat) : Int), ((((k0 + cnts (x1.take i)) + 1) : Nat) : Int)), (((((k0 + cnts (x1.take i)) + 1) + 1) : Nat) : Int), ((((((k0 + cnts (x1.take i)) + 1) + 1) + 1) : Nat) : Int), (((((((k0 + cnts (x1.take i)) + 1) + 1) + 1) + 1) : Nat) : Int), (((((((((k0 + cnts (x1.take i)) + 1) + 1) + 1) + 1) + 1) : Nat) : Int), b52, b53, b54, b55, b56, b57, b58), b6, b7, b8) : T_Inst)).set i ((((((k0 + cnts (x1.take i)) : Nat) : Int), ((((k0 + cnts (x1.take i)) + 1) : Nat) : Int)), (((((k0 + cnts (x1.take i)) + 1) + 1) : Nat) : Int), ((((((k0 + cnts (x1.take i)) + 1) + 1) + 1) : Nat) : Int), (((((((k0 + cnts (x1.take i)) + 1) + 1) + 1) + 1) : Nat) : Int), (((((((((k0 + cnts (x1.take i)) + 1) + 1) + 1) + 1) + 1) : Nat) : Int), (((((((((k0 + cnts (x1.take i)) + 1) + 1) + 1) + 1) + 1) + 1) : Nat) : Int), b53, b54, b55, b56, b57, b58), b6, b7, b8) : T_Inst)).set i ((((((k0 + cnts (x1.take i)) : Nat) : Int), ((((k0 + cnts (x1.take i)) + 1) : Nat) : Int)), (((((k0 + cnts (x1.take i)) + 1) + 1) : Nat) : Int), ((((((k0 + cnts (x1.take i)) + 1) + 1) + 1) : Nat) : Int), (((((((k0 + cnts (x1.take i)) + 1) + 1) + 1) + 1) : Nat) : Int), (((((((((k0 + cnts (x1.take i)) + 1) + 1) + 1) + 1) + 1) : Nat) : Int), (((((((((k0 + cnts (x1.take i)) + 1) + 1) + 1) + 1) + 1) + 1) : Nat) : Int), ((((((((((k0 + cnts (x1.take i)) + 1) + 1) + 1) + 1) + 1) + 1) + 1) : Nat) : Int), b54, b55, b56, b57, b58), b6, b7, b8) : T_Inst)).set i ((((((k0 + cnts (x1.take i)) : Nat) : Int), ((((k0 + cnts (x1.take i)) + 1) : Nat) : Int)), (((((k0 + cnts (x1.take i)) + 1) + 1) : Nat) : Int), ((((((k0 + cnts (x1.take i)) + 1) + 1) + 1) : Nat) : Int), (((((((k0 + cnts (x1.take i)) + 1) + 1) + 1) + 1) : Nat) : Int), (((((((((k0 + cnts (x1.take i)) + 1) + 1) + 1) + 1) + 1) : Nat) : Int), (((((((((k0 + cnts (x1.take i)) + 1) + 1) + 1) + 1) + 1) + 1) : Nat) : Int), ((((((((((k0 + cnts (x1.take i)) + 1) + 1) + 1) + 1) + 1) + 1) + 1) : Nat) : Int), (mtx (((((((((k0 + cnts (x1.take i)) + 1) + 1) + 1) + 1) + 1) + 1) + 1) + 1)), b55, b56, b57, b58), b6, b7, b8) : T_Inst)).set i ((((((k0 + cnts (x1.take i)) : Nat) : Int), ((((k0 + cnts (x1.take i)) + 1) : Nat) : Int)), (((((k0 + cnts (x1.take i)) + 1) + 1) : Nat) : Int), ((((((k0 + cnts (x1.take i)) + 1) + 1) + 1) : Nat) : Int), (((((((k0 + cnts (x1.take i)) + 1) + 1) + 1) + 1) : Nat) : Int), (((((((((k0 + cnts (x1.take i)) + 1) + 1) + 1) + 1) + 1) : Nat) : Int), (((((((((k0 + cnts (x1.take i)) + 1) + 1) + 1) + 1) + 1) + 1) : Nat) : Int), ((((((((((k0 + cnts (x1.take i)) + 1) + 1) + 1) + 1) + 1) + 1) + 1) : Nat) : Int), (mtx (((((((((k0 + cnts (x1.take i)) + 1) + 1) + 1) + 1) + 1) + 1) + 1) + 1)), (mtx ((((((((((k0 + cnts (x1.take i)) + 1) + 1) + 1) + 1) + 1) + 1) + 1) + 1) + 1)), b56, b57, b58), b6, b7, b8) : T_Inst)).set i ((((((k0 + cnts (x1.take i)) : Nat) : Int), ((((k0 + cnts (x1.take i)) + 1) : Nat) : Int)), (((((k0 + cnts (x1.take i)) + 1) + 1) : Nat) : Int), ((((((k0 + cnts (x1.take i)) + 1) + 1) + 1) : Nat) : Int), (((((((k0 + cnts (x1.take i)) + 1) + 1) + 1) + 1) : Nat) : Int), (((((((((k0 + cnts (x1.take i)) + 1) + 1) + 1) + 1) + 1) : Nat) : Int), (((((((((k0 + cnts (x1.take i)) + 1) + 1) + 1) + 1) + 1) + 1) : Nat) : Int), ((((((((((k0 + cnts (x1.take i)) + 1) + 1) + 1) + 1) + 1) + 1) + 1) : Nat) : Int), (mtx (((((((((k0 + cnts (x1.take i)) + 1) + 1) + 1) + 1) + 1) + 1) + 1) + 1)), (mtx ((((((((((k0 + cnts (x1.take i)) + 1) + 1) + 1) + 1) + 1) + 1) + 1) + 1) + 1)), (mtx (((((((((((k0 + cnts (x1.take i)) + 1) + 1) + 1) + 1) + 1) + 1) + 1) + 1) + 1) + 1)), b57, b58), b6, b7, b8) : T_Inst)).set i ((((((k0 + cnts (x1.take i)) : Nat) : Int), ((((k0 + cnts (x1.take i)) + 1) : Nat) : Int)), (((((k0 + cnts (x1.take i)) + 1) + 1) : Nat) : Int), ((((((k0 + cnts (x1.take i)) + 1) + 1) + 1) : Nat) : Int), (((((((k0 + cnts (x1.take i)) + 1) + 1) + 1) + 1) : Nat) : Int), (((((((((k0 + cnts (x1.take i)) + 1) + 1) + 1) + 1) + 1) : Nat) : Int), (((((((((k0 + cnts (x1.take i)) + 1) + 1) + 1) + 1) + 1) + 1) : Nat) : Int), ((((((((((k0 + cnts (x1.take i)) + 1) + 1) + 1) + 1) + 1) + 1) + 1) : Nat) : Int), (mtx (((((((((k0 + cnts (x1.take i)) + 1) + 1) + 1) + 1) + 1) + 1) + 1) + 1)), (mtx ((((((((((k0 + cnts (x1.take i)) + 1) + 1) + 1) + 1) + 1) + 1) + 1) + 1) + 1)), (mtx (((((((((((k0 + cnts (x1.take i)) + 1) + 1) + 1) + 1) + 1) + 1) + 1) + 1) + 1) + 1)), ((((((((((((((k0 + cnts (x1.take i)) + 1) + 1) + 1) + 1) + 1) + 1) + 1) + 1) + 1) + 1) + 1) : Nat) : Int), b58), b6, b7, b8) : T_Inst)).set i ((((((k0 + cnts (x1.take i)) : Nat) : Int), ((((k0 + cnts (x1.take i)) + 1) : Nat) : Int)), (((((k0 + cnts (x1.take i)) + 1) + 1) : Nat) : Int), ((((((k0 + cnts (x1.take i)) + 1) + 1) + 1) : Nat) : Int), (((((((k0 + cnts (x1.take i)) + 1) + 1) + 1) + 1) : Nat) : Int), (((((((((k0 + cnts (x1.take i)) + 1) + 1) + 1) + 1) + 1) : Nat) : Int), (((((((((k0 + cnts (x1.take i)) + 1) + 1) + 1) + 1) + 1) + 1) : Nat) : Int), ((((((((((k0 + cnts (x1.take i)) + 1) + 1) + 1) + 1) + 1) + 1) + 1) : Nat) : Int), (mtx (((((((((k0 + cnts (x1.take i)) + 1) + 1) + 1) + 1) + 1) + 1) + 1) + 1)), (mtx ((((((((((k0 + cnts (x1.take i)) + 1) + 1) + 1) + 1) + 1) + 1) + 1) + 1) + 1)), (mtx (((((((((((k0 + cnts (x1.take i)) + 1) + 1) + 1) + 1) + 1) + 1) + 1) + 1) + 1) + 1)), ((((((((((((((k0 + cnts (x1.take i)) + 1) + 1) + 1) + 1) + 1) + 1) + 1) + 1) + 1) + 1) + 1) : Nat) : Int), (Mk.mkd (((((((((((((k0 + cnts (x1.take i)) + 1) + 1) + 1) + 1) + 1) + 1) + 1) + 1) + 1) + 1) + 1) + 1) b58)), b6, b7, b8) : T_Inst)).set i ((((((k0 + cnts (x1.take i)) : Nat) : Int), ((((k0 + cnts (x1.take i)) + 1) : Nat) : Int)), (((((k0 + cnts (x1.take i)) + 1) + 1) : Nat) : Int), ((((((k0 + cnts (x1.take i)) + 1) + 1) + 1) : Nat) : Int), (((((((k0 + cnts (x1.take i)) + 1) + 1) + 1) + 1) : Nat) : Int), (((((((((k0 + cnts (x1.take i)) + 1) + 1) + 1) + 1) + 1) : Nat) : Int), (((((((((k0 + cnts (x1.take i)) + 1) + 1) + 1) + 1) + 1) + 1) : Nat) : Int), ((((((((((k0 + cnts (x1.take i)) + 1) + 1) + 1) + 1) + 1) + 1) + 1) : Nat) : Int), (mtx (((((((((k0 + cnts (x1.take i)) + 1) + 1) + 1) + 1) + 1) + 1) + 1) + 1)), (mtx ((((((((((k0 + cnts (x1.take i)) + 1) + 1) + 1) + 1) + 1) + 1) + 1) + 1) + 1)), (mtx (((((((((((k0 + cnts (x1.take i)) + 1) + 1) + 1) + 1) + 1) + 1) + 1) + 1) + 1) + 1)), ((((((((((((((k0 + cnts (x1.take i)) + 1) + 1) + 1) + 1) + 1) + 1) + 1) + 1) + 1) + 1) + 1) : Nat) : Int), (Mk.mkd (((((((((((((k0 + cnts (x1.take i)) + 1) + 1) + 1) + 1) + 1) + 1) + 1) + 1) + 1) + 1) + 1) + 1) b58)), ((((((((((((((((k0 + cnts (x1.take i)) + 1) + 1) + 1) + 1) + 1) + 1) + 1) + 1) + 1) + 1) + 1) + 1) + Mk.cnt b58) : Nat) : Int), b7, b8) : T_Inst)), y1⟩ : TL T_Inst)) (by repeat (first | exact List.Mem.head _ | apply List.Mem.tail)) rfl (show ((((((((((((((((half k0 i x1).set i ((((((k0 + cnts (x1.take i)) : Nat) : Int), b12), b2, b3, b4, (b51, b52, b53, b54, b55, b56, b57, b58), b6, b7, b8) : T_Inst)).set i ((((((k0 + cnts (x1.take i)) : Nat) : Int), ((((k0 + cnts (x1.take i)) + 1) : Nat) : Int)), b2, b3, b4, (b51, b52, b53, b54, b55, b56, b57, b58), b6, b7, b8) : T_Inst)).set i ((((((k0 + cnts (x1.take i)) : Nat) : Int), ((((k0 + cnts (x1.take i)) + 1) : Nat) : Int)), (((((k0 + cnts (x1.take i)) + 1) + 1) : Nat) : Int), b3, b4, (b51, b52, b53, b54, b55, b56, b57, b58), b6, b7, b8) : T_Inst)).set i ((((((k0 + cnts (x1.take i)) : Nat) : Int), ((((k0 + cnts (x1.take i)) + 1) : Nat) : Int)), (((((k0 + cnts (x1.take i)) + 1) + 1) : Nat) : Int), ((((((k0 + cnts (x1.take i)) + 1) + 1) + 1) : Nat) : Int), b4, (b51, b52, b53, b54, b55, b56, b57, b58), b6, b7, b8) : T_Inst)).set i ((((((k0 + cnts (x1.take i)) : Nat) : Int), ((((k0 + cnts (x1.take i)) + 1) : Nat) : Int)), (((((k0 + cnts (x1.take i)) + 1) + 1) : Nat) : Int), ((((((k0 + cnts (x1.take i)) + 1) + 1) + 1) : Nat) : Int), (((((((k0 + cnts (x1.take i)) + 1) + 1) + 1) + 1) : Nat) : Int), (b51, b52, b53, b54, b55, b56, b57, b58), b6, b7, b8) : T_Inst)).set i ((((((k0 + cnts (x1.take i)) : Nat) : Int), ((((k0 + cnts (x1.take i)) + 1) : Nat) : Int)), (((((k0 + cnts (x1.take i)) + 1) + 1) : Nat) : Int), ((((((k0 + cnts (x1.take i)) + 1) + 1) + 1) : Nat) : Int), (((((((k0 + cnts (x1.take i)) + 1) + 1) + 1) + 1) : Nat) : Int), (((((((((k0 + cnts (x1.take i)) + 1) + 1) + 1) + 1) + 1) : Nat) : Int), b52, b53, b54, b55, b56, b57, b58), b6, b7, b8) : T_Inst)).set i ((((((k0 + cnts (x1.take i)) : Nat) : Int), ((((k0 + cnts (x1.take i)) + 1) : Nat) : Int)), (((((k0 + cnts (x1.take i)) + 1) + 1) : Nat) : Int), ((((((k0 + cnts (x1.take i)) + 1) + 1) + 1) : Nat) : Int), (((((((k0 + cnts (x1.take i)) + 1) + 1) + 1) + 1) : Nat) : Int), (((((((((k0 + cnts (x1.take i)) + 1) + 1) + 1) + 1) + 1) : Nat) : Int), (((((((((k0 + cnts (x1.take i)) + 1) + 1) + 1) + 1) + 1) + 1) : Nat) : Int), b53, b54, b55, b56, b57, b58), b6, b7, b8) : T_Inst)).set i ((((((k0 + cnts (x1.take i)) : Nat) : Int), ((((k0 + cnts (x1.take i)) + 1) : Nat) : Int)), (((((k0 + cnts (x1.take i)) + 1) + 1) : Nat) : Int), ((((((k0 + cnts (x1.take i)) + 1) + 1) + 1) : Nat) : Int), (((((((k0 + cnts (x1.take i)) + 1) + 1) + 1) + 1) : Nat) : Int), (((((((((k0 + cnts (x1.take i)) + 1) + 1) + 1) + 1) + 1) : Nat) : Int), (((((((((k0 + cnts (x1.take i)) + 1) + 1) + 1) + 1) + 1) + 1) : Nat) : Int), ((((((((((k0 + cnts (x1.take i)) + 1) + 1) + 1) + 1) + 1) + 1) + 1) : Nat) : Int), b54, b55, b56, b57, b58), b6, b7, b8) : T_Inst)).set i ((((((k0 + cnts (x1.take i)) : Nat) : Int), ((((k0 + cnts (x1.take i)) + 1) : Nat) : Int)), (((((k0 + cnts (x1.take i)) + 1) + 1) : Nat) : Int), ((((((k0 + cnts (x1.take i)) + 1) + 1) + 1) : Nat) : Int), (((((((k0 + cnts (x1.take i)) + 1) + 1) + 1) + 1) : Nat) : Int), (((((((((k0 + cnts (x1.take i)) + 1) + 1) + 1) + 1) + 1) : Nat) : Int), (((((((((k0 + cnts (x1.take i)) + 1) + 1) + 1) + 1) + 1) + 1) : Nat) : Int), ((((((((((k0 + cnts (x1.take i)) + 1) + 1) + 1) + 1) + 1) + 1) + 1) : Nat) : Int), (mtx (((((((((k0 + cnts (x1.take i)) + 1) + 1) + 1) + 1) + 1) + 1) + 1) + 1)), b55, b56, b57, b58), b6, b7, b8) : T_Inst)).set i ((((((k0 + cnts (x1.take i)) : Nat) : Int), ((((k0 + cnts (x1.take i)) + 1) : Nat) : Int)), (((((k0 + cnts (x1.take i)) + 1) + 1) : Nat) : Int), ((((((k0 + cnts (x1.take i)) + 1) + 1) + 1) : Nat) : Int), (((((((k0 + cnts (x1.take i)) + 1) + 1) + 1) + 1) : Nat) : Int), (((((((((k0 + cnts (x1.take i)) + 1) + 1) + 1) + 1) + 1) : Nat) : Int), (((((((((k0 + cnts (x1.take i)) + 1) + 1) + 1) + 1) + 1) + 1) : Nat) : Int), ((((((((((k0 + cnts (x1.take i)) + 1) + 1) + 1) + 1) + 1) + 1) + 1) : Nat) : Int), (mtx (((((((((k0 + cnts (x1.take i)) + 1) + 1) + 1) + 1) + 1) + 1) + 1) + 1)), (mtx ((((((((((k0 + cnts (x1.take i)) + 1) + 1) + 1) + 1) + 1) + 1) + 1) + 1) + 1)), b56, b57, b58), b6, b7, b8) : T_Inst)).set i ((((((k0 + cnts (x1.take i)) : Nat) : Int), ((((k0 + cnts (x1.take i)) + 1) : Nat) : Int)), (((((k0 + cnts (x1.take i)) + 1) + 1) : Nat) : Int), ((((((k0 + cnts (x1.take i)) + 1) + 1) + 1) : Nat) : Int), (((((((k0 + cnts (x1.take i)) + 1) + 1) + 1) + 1) : Nat) : Int), (((((((((k0 + cnts (x1.take i)) + 1) + 1) + 1) + 1) + 1) : Nat) : Int), (((((((((k0 + cnts (x1.take i)) + 1) + 1) + 1) + 1) + 1) + 1) : Nat) : Int), ((((((((((k0 + cnts (x1.take i)) + 1) + 1) + 1) + 1) + 1) + 1) + 1) : Nat) : Int), (mtx (((((((((k0 + cnts (x1.take i)) + 1) + 1) + 1) + 1) + 1) + 1) + 1) + 1)), (mtx ((((((((((k0 + cnts (x1.take i)) + 1) + 1) + 1) + 1) + 1) + 1) + 1) + 1) + 1)), (mtx (((((((((((k0 + cnts (x1.take i)) + 1) + 1) + 1) + 1) + 1) + 1) + 1) + 1) + 1) + 1)), b57, b58), b6, b7, b8) : T_Inst)).set i ((((((k0 + cnts (x1.take i)) : Nat) : Int), ((((k0 + cnts (x1.take i)) + 1) : Nat) : Int)), (((((k0 + cnts (x1.take i)) + 1) + 1) : Nat) : Int), ((((((k0 + cnts (x1.take i)) + 1) + 1) + 1) : Nat) : Int), (((((((k0 + cnts (x1.take i)) + 1) + 1) + 1) + 1) : Nat) : Int), (((((((((k0 + cnts (x1.take i)) + 1) + 1) + 1) + 1) + 1) : Nat) : Int), (((((((((k0 + cnts (x1.take i)) + 1) + 1) + 1) + 1) + 1) + 1) : Nat) : Int), ((((((((((k0 + cnts (x1.take i)) + 1) + 1) + 1) + 1) + 1) + 1) + 1) : Nat) : Int), (mtx (((((((((k0 + cnts (x1.take i)) + 1) + 1) + 1) + 1) + 1) + 1) + 1) + 1)), (mtx ((((((((((k0 + cnts (x1.take i)) + 1) + 1) + 1) + 1) + 1) + 1) + 1) + 1) + 1)), (mtx (((((((((((k0 + cnts (x1.take i)) + 1) + 1) + 1) + 1) + 1) + 1) + 1) + 1) + 1) + 1)), ((((((((((((((k0 + cnts (x1.take i)) + 1) + 1) + 1) + 1) + 1) + 1) + 1) + 1) + 1) + 1) + 1) : Nat) : Int), b58), b6, b7, b8) : T_Inst)).set i ((((((k0 + cnts (x1.take i)) : Nat) : Int), ((((k0 + cnts (x1.take i)) + 1) : Nat) : Int)), (((((k0 + cnts (x1.take i)) + 1) + 1) : Nat) : Int), ((((((k0 + cnts (x1.take i)) + 1) + 1) + 1) : Nat) : Int), (((((((k0 + cnts (x1.take i)) + 1) + 1) + 1) + 1) : Nat) : Int), (((((((((k0 + cnts (x1.take i)) + 1) + 1) + 1) + 1) + 1) : Nat) : Int), (((((((((k0 + cnts (x1.take i)) + 1) + 1) + 1) + 1) + 1) + 1) : Nat) : Int), ((((((((((k0 + cnts (x1.take i)) + 1) + 1) + 1) + 1) + 1) + 1) + 1) : Nat) : Int), (mtx (((((((((k0 + cnts (x1.take i)) + 1) + 1) + 1) + 1) + 1) + 1) + 1) + 1)), (mtx ((((((((((k0 + cnts (x1.take i)) + 1) + 1) + 1) + 1) + 1) + 1) + 1) + 1) + 1)), (mtx (((((((((((k0 + cnts (x1.take i)) + 1) + 1) + 1) + 1) + 1) + 1) + 1) + 1) + 1) + 1)), ((((((((((((((k0 + cnts (x1.take i)) + 1) + 1) + 1) + 1) + 1) + 1) + 1) + 1) + 1) + 1) + 1) : Nat) : Int), (Mk.mkd (((((((((((((k0 + cnts (x1.take i)) + 1) + 1) + 1) + 1) + 1) + 1) + 1) + 1) + 1) + 1) + 1) + 1) b58)), b6, b7, b8) : T_Inst)).set i ((((((k0 + cnts (x1.take i)) : Nat) : Int), ((((k0 + cnts (x1.take i)) + 1) : Nat) : Int)), (((((k0 + cnts (x1.take i)) + 1) + 1) : Nat) : Int), ((((((k0 + cnts (x1.take i)) + 1) + 1) + 1) : Nat) : Int), (((((((k0 + cnts (x1.take i)) + 1) + 1) + 1) + 1) : Nat) : Int), (((((((((k0 + cnts (x1.take i)) + 1) + 1) + 1) + 1) + 1) : Nat) : Int), (((((((((k0 + cnts (x1.take i)) + 1) + 1) + 1) + 1) + 1) + 1) : Nat) : Int), ((((((((((k0 + cnts (x1.take i)) + 1) + 1) + 1) + 1) + 1) + 1) + 1) : Nat) : Int), (mtx (((((((((k0 + cnts (x1.take i)) + 1) + 1) + 1) + 1) + 1) + 1) + 1) + 1)), (mtx ((((((((((k0 + cnts (x1.take i)) + 1) + 1) + 1) + 1) + 1) + 1) + 1) + 1) + 1)), (mtx (((((((((((k0 + cnts (x1.take i)) + 1) + 1) + 1) + 1) + 1) + 1) + 1) + 1) + 1) + 1)), ((((((((((((((k0 + cnts (x1.take i)) + 1) + 1) + 1) + 1) + 1) + 1) + 1) + 1) + 1) + 1) + 1) : Nat) : Int), (Mk.mkd (((((((((((((k0 + cnts (x1.take i)) + 1) + 1) + 1) + 1) + 1) + 1) + 1) + 1) + 1) + 1) + 1) + 1) b58)), ((((((((((((((((k0 + cnts (x1.take i)) + 1) + 1) + 1) + 1) + 1) + 1) + 1) + 1) + 1) + 1) + 1) + 1) + Mk.cnt b58) : Nat) : Int), b7, b8) : T_Inst)) : List T_Inst)[i]? = some ((((((k0 + cnts (x1.take i)) : Nat) : Int), ((((k0 + cnts (x1.take i)) + 1) : Nat) : Int)), (((((k0 + cnts (x1.take i)) + 1) + 1) : Nat) : Int), ((((((k0 + cnts (x1.take i)) + 1) + 1) + 1) : Nat) : Int), (((((((k0 + cnts (x1.take i)) + 1) + 1) + 1) + 1) : Nat) : Int), (((((((((k0 + cnts (x1.take i)) + 1) + 1) + 1) + 1) + 1) : Nat) : Int), (((((((((k0 + cnts (x1.take i)) + 1) + 1) + 1) + 1) + 1) + 1) : Nat) : Int), ((((((((((k0 + cnts (x1.take i)) + 1) + 1) + 1) + 1) + 1) + 1) + 1) : Nat) : Int), (mtx (((((((((k0 + cnts (x1.take i)) + 1) + 1) + 1) + 1) + 1) + 1) + 1) + 1)), (mtx ((((((((((k0 + cnts (x1.take i)) + 1) + 1) + 1) + 1) + 1) + 1) + 1) + 1) + 1)), (mtx (((((((((((k0 + cnts (x1.take i)) + 1) + 1) + 1) + 1) + 1) + 1) + 1) + 1) + 1) + 1)), ((((((((((((((k0 + cnts (x1.take i)) + 1) + 1) + 1) + 1) + 1) + 1) + 1) + 1) + 1) + 1) + 1) : Nat) : Int), (Mk.mkd (((((((((((((k0 + cnts (x1.take i)) + 1) + 1) + 1) + 1) + 1) + 1) + 1) + 1) + 1) + 1) + 1) + 1) b58)), ((((((((((((((((k0 + cnts (x1.take i)) + 1) + 1) + 1) + 1) + 1) + 1) + 1) + 1) + 1) + 1) + 1) + 1) + Mk.cnt b58) : Nat) : Int), b7, b8) : T_Inst) from set_get (set_get (set_get (set_get (set_get (set_get (set_get (set_get (set_get (set_get (set_get (set_get (set_get (set_get (half_get (k := k0) hu)))))))))))))))) one265 rfl ?_
      refine L_move rfl rfl ?_
      refine L_conv (fun w h => el_out (L := (⟨some ⟨g, 0, none⟩, c1, e1, (((((((((((((((half k0 i x1).set i ((((((k0 + cnts (x1.take i)) : Nat) : Int), b12), b2, b3, b4, (b51, b52, b53, b54, b55, b56, b57, b58), b6, b7, b8) : T_Inst)).set i ((((((k0 + cnts (x1.take i)) : Nat) : Int), ((((k0 + cnts (x1.take i)) + 1) : Nat) : Int)), b2, b3, b4, (b51, b52, b53, b54, b55, b56, b57, b58), b6, b7, b8) : T_Inst)).set i ((((((k0 + cnts (x1.take i)) : Nat) : Int), ((((k0 + cnts (x1.take i)) + 1) : Nat) : Int)), (((((k0 + cnts (x1.take i)) + 1) + 1) : Nat) : Int), b3, b4, (b51, b52, b53, b54, b55, b56, b57, b58), b6, b7, b8) : T_Inst)).set i ((((((k0 + cnts (x1.take i)) : Nat) : Int), ((((k0 + cnts (x1.take i)) + 1) : Nat) : Int)), (((((k0 + cnts (x1.take i)) + 1) + 1) : Nat) : Int), ((((((k0 + cnts (x1.take i)) + 1) + 1) + 1) : Nat) : Int), b4, (b51, b52, b53, b54, b55, b56, b57, b58), b6, b7, b8) : T_Inst)).set i ((((((k0 + cnts (x1.take i)) : Nat) : Int), ((((k0 + cnts (x1.take i)) + 1) : Nat) : Int)), (((((k0 + cnts (x1.take i)) + 1) + 1) : Nat) : Int), ((((((k0 + cnts (x1.take i)) + 1) + 1) + 1) : Nat) : Int), (((((((k0 + cnts (x1.take i)) + 1) + 1) + 1) + 1) : Nat) : Int), (b51, b52, b53, b54, b55, b56, b57, b58), b6, b7, b8) : T_Inst)).set i ((((((k0 + cnts (x1.take i)) : Nat) : Int), ((((k0 + cnts (x1.take i)) + 1) : Nat) : Int)), (((((k0 + cnts (x1.take i)) + 1) + 1) : Nat) : Int), ((((((k0 + cnts (x1.take i)) + 1) + 1) + 1) : Nat) : Int), (((((((k0 + cnts (x1.take i)) + 1) + 1) + 1) + 1) : Nat) : Int), (((((((((k0 + cnts (x1.take i)) + 1) + 1) + 1) + 1) + 1) : Nat) : Int), b52, b53, b54, b55, b56, b57, b58), b6, b7, b8) : T_Inst)).set i ((((((k0 + cnts (x1.take i)) : Nat) : Int), ((((k0 + cnts (x1.take i)) + 1) : Nat) : Int)), (((((k0 + cnts (x1.take i)) + 1) + 1) : Nat) : Int), ((((((k0 + cnts (x1.take i)) + 1) + 1) + 1) : Nat) : Int), (((((((k0 + cnts (x1.take i)) + 1) + 1) + 1) + 1) : Nat) : Int), (((((((((k0 + cnts (x1.take i)) + 1) + 1) + 1) + 1) + 1) : Nat) : Int), (((((((((k0 + cnts (x1.take i)) + 1) + 1) + 1) + 1) + 1) + 1) : Nat) : Int), b53, b54, b55, b56, b57, b58), b6, b7, b8) : T_Inst)).set i ((((((k0 + cnts (x1.take i)) : Nat) : Int), ((((k0 + cnts (x1.take i)) + 1) : Nat) : Int)), (((((k0 + cnts (x1.take i)) + 1) + 1) : Nat) : Int), ((((((k0 + cnts (x1.take i)) + 1) + 1) + 1) : Nat) : Int), (((((((k0 + cnts (x1.take i)) + 1) + 1) + 1) + 1) : Nat) : Int), (((((((((k0 + cnts (x1.take i)) + 1) + 1) + 1) + 1) + 1) : Nat) : Int), (((((((((k0 + cnts (x1.take i)) + 1) + 1) + 1) + 1) + 1) + 1) : Nat) : Int), ((((((((((k0 + cnts (x1.take i)) + 1) + 1) + 1) + 1) + 1) + 1) + 1) : Nat) : Int), b54, b55, b56, b57, b58), b6, b7, b8) : T_Inst)).set i ((((((k0 + cnts (x1.take i)) : Nat) : Int), ((((k0 + cnts (x1.take i)) + 1) : Nat) : Int)), (((((k0 + cnts (x1.take i)) + 1) + 1) : Nat) : Int), ((((((k0 + cnts (x1.take i)) + 1) + 1) + 1) : Nat) : Int), (((((((k0 + cnts (x1.take i)) + 1) + 1) + 1) + 1) : Nat) : Int), (((((((((k0 + cnts (x1.take i)) + 1) + 1) + 1) + 1) + 1) : Nat) : Int), (((((((((k0 + cnts (x1.take i)) + 1) + 1) + 1) + 1) + 1) + 1) : Nat) : Int), ((((((((((k0 + cnts (x1.take i)) + 1) + 1) + 1) + 1) + 1) + 1) + 1) : Nat) : Int), (mtx (((((((((k0 + cnts (x1.take i)) + 1) + 1) + 1) + 1) + 1) + 1) + 1) + 1)), b55, b56, b57, b58), b6, b7, b8) : T_Inst)).set i ((((((k0 + cnts (x1.take i)) : Nat) : Int), ((((k0 + cnts (x1.take i)) + 1) : Nat) : Int)), (((((k0 + cnts (x1.take i)) + 1) + 1) : Nat) : Int), ((((((k0 + cnts (x1.take i)) + 1) + 1) + 1) : Nat) : Int), (((((((k0 + cnts (x1.take i)) + 1) + 1) + 1) + 1) : Nat) : Int), (((((((((k0 + cnts (x1.take i)) + 1) + 1) + 1) + 1) + 1) : Nat) : Int), (((((((((k0 + cnts (x1.take i)) + 1) + 1) + 1) + 1) + 1) + 1) : Nat) : Int), ((((((((((k0 + cnts (x1.take i)) + 1) + 1) + 1) + 1) + 1) + 1) + 1) : Nat) : Int), (mtx (((((((((k0 + cnts (x1.take i)) + 1) + 1) + 1) + 1) + 1) + 1) + 1) + 1)), (mtx ((((((((((k0 + cnts (x1.take i)) + 1) + 1) + 1) + 1) + 1) + 1) + 1) + 1) + 1)), b56, b57, b58), b6, b7, b8) : T_Inst)).set i ((((((k0 + cnts (x1.take i)) : Nat) : Int), ((((k0 + cnts (x1.take i)) + 1) : Nat) : Int)), (((((k0 + cnts (x1.take i)) + 1) + 1) : Nat) : Int), ((((((k0 + cnts (x1.take i)) + 1) + 1) + 1) : Nat) : Int), (((((((k0 + cnts (x1.take i)) + 1) + 1) + 1) + 1) : Nat) : Int), (((((((((k0 + cnts (x1.take i)) + 1) + 1) + 1) + 1) + 1) : Nat) : Int), (((((((((k0 + cnts (x1.take i)) + 1) + 1) + 1) + 1) + 1) + 1) : Nat) : Int), ((((((((((k0 + cnts (x1.take i)) + 1) + 1) + 1) + 1) + 1) + 1) + 1) : Nat) : Int), (mtx (((((((((k0 + cnts (x1.take i)) + 1) + 1) + 1) + 1) + 1) + 1) + 1) + 1)), (mtx ((((((((((k0 + cnts (x1.take i)) + 1) + 1) + 1) + 1) + 1) + 1) + 1) + 1) + 1)), (mtx (((((((((((k0 + cnts (x1.take i)) + 1) + 1) + 1) + 1) + 1) + 1) + 1) + 1) + 1) + 1)), b57, b58), b6, b7, b8) : T_Inst)).set i ((((((k0 + cnts (x1.take i)) : Nat) : Int), ((((k0 + cnts (x1.take i)) + 1) : Nat) : Int)), (((((k0 + cnts (x1.take i)) + 1) + 1) : Nat) : Int), ((((((k0 + cnts (x1.take i)) + 1) + 1) + 1) : Nat) : Int), (((((((k0 + cnts (x1.take i)) + 1) + 1) + 1) + 1) : Nat) : Int), (((((((((k0 + cnts (x1.take i)) + 1) + 1) + 1) + 1) + 1) : Nat) : Int), (((((((((k0 + cnts (x1.take i)) + 1) + 1) + 1) + 1) + 1) + 1) : Nat) : Int), ((((((((((k0 + cnts (x1.take i)) + 1) + 1) + 1) + 1) + 1) + 1) + 1) : Nat) : Int), (mtx (((((((((k0 + cnts (x1.take i)) + 1) + 1) + 1) + 1) + 1) + 1) + 1) + 1)), (mtx ((((((((((k0 + cnts (x1.take i)) + 1) + 1) + 1) + 1) + 1) + 1) + 1) + 1) + 1)), (mtx (((((((((((k0 + cnts (x1.take i)) + 1) + 1) + 1) + 1) + 1) + 1) + 1) + 1) + 1) + 1)), ((((((((((((((k0 + cnts (x1.take i)) + 1) + 1) + 1) + 1) + 1) + 1) + 1) + 1) + 1) + 1) + 1) : Nat) : Int), b58), b6, b7, b8) : T_Inst)).set i ((((((k0 + cnts (x1.take i)) : Nat) : Int), ((((k0 + cnts (x1.take i)) + 1) : Nat) : Int)), (((((k0 + cnts (x1.take i)) + 1) + 1) : Nat) : Int), ((((((k0 + cnts (x1.take i)) + 1) + 1) + 1) : Nat) : Int), (((((((k0 + cnts (x1.take i)) + 1) + 1) + 1) + 1) : Nat) : Int), (((((((((k0 + cnts (x1.take i)) + 1) + 1) + 1) + 1) + 1) : Nat) : Int), (((((((((k0 + cnts (x1.take i)) + 1) + 1) + 1) + 1) + 1) + 1) : Nat) : Int), ((((((((((k0 + cnts (x1.take i)) + 1) + 1) + 1) + 1) + 1) + 1) + 1) : Nat) : Int), (mtx (((((((((k0 + cnts (x1.take i)) + 1) + 1) + 1) + 1) + 1) + 1) + 1) + 1)), (mtx ((((((((((k0 + cnts (x1.take i)) + 1) + 1) + 1) + 1) + 1) + 1) + 1) + 1) + 1)), (mtx (((((((((((k0 + cnts (x1.take i)) + 1) + 1) + 1) + 1) + 1) + 1) + 1) + 1) + 1) + 1)), ((((((((((((((k0 + cnts (x1.take i)) + 1) + 1) + 1) + 1) + 1) + 1) + 1) + 1) + 1) + 1) + 1) : Nat) : Int), (Mk.mkd (((((((((((((k0 + cnts (x1.take i)) + 1) + 1) + 1) + 1) + 1) + 1) + 1) + 1) + 1) + 1) + 1) + 1) b58)), b6, b7, b8) : T_Inst)).set i ((((((k0 + cnts (x1.take i)) : Nat) : Int), ((((k0 + cnts (x1.take i)) + 1) : Nat) : Int)), (((((k0 + cnts (x1.take i)) + 1) + 1) : Nat) : Int), ((((((k0 + cnts (x1.take i)) + 1) + 1) + 1) : Nat) : Int), (((((((k0 + cnts (x1.take i)) + 1) + 1) + 1) + 1) : Nat) : Int), (((((((((k0 + cnts (x1.take i)) + 1) + 1) + 1) + 1) + 1) : Nat) : Int), (((((((((k0 + cnts (x1.take i)) + 1) + 1) + 1) + 1) + 1) + 1) : Nat) : Int), ((((((((((k0 + cnts (x1.take i)) + 1) + 1) + 1) + 1) + 1) + 1) + 1) : Nat) : Int), (mtx (((((((((k0 + cnts (x1.take i)) + 1) + 1) + 1) + 1) + 1) + 1) + 1) + 1)), (mtx ((((((((((k0 + cnts (x1.take i)) + 1) + 1) + 1) + 1) + 1) + 1) + 1) + 1) + 1)), (mtx (((((((((((k0 + cnts (x1.take i)) + 1) + 1) + 1) + 1) + 1) + 1) + 1) + 1) + 1) + 1)), ((((((((((((((k0 + cnts (x1.take i)) + 1) + 1) + 1) + 1) + 1) + 1) + 1) + 1) + 1) + 1) + 1) : Nat) : Int), (Mk.mkd (((((((((((((k0 + cnts (x1.take i)) + 1) + 1) + 1) + 1) + 1) + 1) + 1) + 1) + 1) + 1) + 1) + 1) b58)), ((((((((((((((((k0 + cnts (x1.take i)) + 1) + 1) + 1) + 1) + 1) + 1) + 1) + 1) + 1) + 1) + 1) + 1) + Mk.cnt b58) : Nat) : Int), b7, b8) : T_Inst)), y1⟩ : TL T_Inst)) (show ((((((((((((((((half k0 i x1).set i ((((((k0 + cnts (x1.take i)) : Nat) : Int), b12), b2, b3, b4, (b51, b52, b53, b54, b55, b56, b57, b58), b6, b7, b8) : T_Inst)).set i ((((((k0 + cnts (x1.take i)) : Nat) : Int), ((((k0 + cnts (x1.take i)) + 1) : Nat) : Int)), b2, b3, b4, (b51, b52, b53, b54, b55, b56, b57, b58), b6, b7, b8) : T_Inst)).set i ((((((k0 + cnts (x1.take i)) : Nat) : Int), ((((k0 + cnts (x1.take i)) + 1) : Nat) : Int)), (((((k0 + cnts (x1.take i)) + 1) + 1) : Nat) : Int), b3, b4, (b51, b52, b53, b54, b55, b56, b57, b58), b6, b7, b8) : T_Inst)).set i ((((((k0 + cnts (x1.take i)) : Nat) : Int), ((((k0 + cnts (x1.take i)) + 1) : Nat) : Int)), (((((k0 + cnts (x1.take i)) + 1) + 1) : Nat) : Int), ((((((k0 + cnts (x1.take i)) + 1) + 1) + 1) : Nat) : Int), b4, (b51, b52, b53, b54, b55, b56, b57, b58), b6, b7, b8) : T_Inst)).set i ((((((k0 + cnts (x1.take i)) : Nat) : Int), ((((k0 + cnts (x1.take i)) + 1) : Nat) : Int)), (((((k0 + cnts (x1.take i)) + 1) + 1) : Nat) : Int), ((((((k0 + cnts (x1.take i)) + 1) + 1) + 1) : Nat) : Int), (((((((k0 + cnts (x1.take i)) + 1) + 1) + 1) + 1) : Nat) : Int), (b51, b52, b53, b54, b55, b56, b57, b58), b6, b7, b8) : T_Inst)).set i ((((((k0 + cnts (x1.take i)) : Nat) : Int), ((((k0 + cnts (x1.take i)) + 1) : Nat) : Int)), (((((k0 + cnts (x1.take i)) + 1) + 1) : Nat) : Int), ((((((k0 + cnts (x1.take i)) + 1) + 1) + 1) : Nat) : Int), (((((((k0 + cnts (x1.take i)) + 1) + 1) + 1) + 1) : Nat) : Int), (((((((((k0 + cnts (x1.take i)) + 1) + 1) + 1) + 1) + 1) : Nat) : Int), b52, b53, b54, b55, b56, b57, b58), b6, b7, b8) : T_Inst)).set i ((((((k0 + cnts (x1.take i)) : Nat) : Int), ((((k0 + cnts (x1.take i)) + 1) : Nat) : Int)), (((((k0 + cnts (x1.take i)) + 1) + 1) : Nat) : Int), ((((((k0 + cnts (x1.take i)) + 1) + 1) + 1) : Nat) : Int), (((((((k0 + cnts (x1.take i)) + 1) + 1) + 1) + 1) : Nat) : Int), (((((((((k0 + cnts (x1.take i)) + 1) + 1) + 1) + 1) + 1) : Nat) : Int), (((((((((k0 + cnts (x1.take i)) + 1) + 1) + 1) + 1) + 1) + 1) : Nat) : Int), b53, b54, b55, b56, b57, b58), b6, b7, b8) : T_Inst)).set i ((((((k0 + cnts (x1.take i)) : Nat) : Int), ((((k0 + cnts (x1.take i)) + 1) : Nat) : Int)), (((((k0 + cnts (x1.take i)) + 1) + 1) : Nat) : Int), ((((((k0 + cnts (x1.take i)) + 1) + 1) + 1) : Nat) : Int), (((((((k0 + cnts (x1.take i)) + 1) + 1) + 1) + 1) : Nat) : Int), (((((((((k0 + cnts (x1.take i)) + 1) + 1) + 1) + 1) + 1) : Nat) : Int), (((((((((k0 + cnts (x1.take i)) + 1) + 1) + 1) + 1) + 1) + 1) : Nat) : Int), ((((((((((k0 + cnts (x1.take i)) + 1) + 1) + 1) + 1) + 1) + 1) + 1) : Nat) : Int), b54, b55, b56, b57, b58), b6, b7, b8) : T_Inst)).set i ((((((k0 + cnts (x1.take i)) : Nat) : Int), ((((k0 + cnts (x1.take i)) + 1) : Nat) : Int)), (((((k0 + cnts (x1.take i)) + 1) + 1) : Nat) : Int), ((((((k0 + cnts (x1.take i)) + 1) + 1) + 1) : Nat) : Int), (((((((k0 + cnts (x1.take i)) + 1) + 1) + 1) + 1) : Nat) : Int), (((((((((k0 + cnts (x1.take i)) + 1) + 1) + 1) + 1) + 1) : Nat) : Int), (((((((((k0 + cnts (x1.take i)) + 1) + 1) + 1) + 1) + 1) + 1) : Nat) : Int), ((((((((((k0 + cnts (x1.take i)) + 1) + 1) + 1) + 1) + 1) + 1) + 1) : Nat) : Int), (mtx (((((((((k0 + cnts (x1.take i)) + 1) + 1) + 1) + 1) + 1) + 1) + 1) + 1)), b55, b56, b57, b58), b6, b7, b8) : T_Inst)).set i ((((((k0 + cnts (x1.take i)) : Nat) : Int), ((((k0 + cnts (x1.take i)) + 1) : Nat) : Int)), (((((k0 + cnts (x1.take i)) + 1) + 1) : Nat) : Int), ((((((k0 + cnts (x1.take i)) + 1) + 1) + 1) : Nat) : Int), (((((((k0 + cnts (x1.take i)) + 1) + 1) + 1) + 1) : Nat) : Int), (((((((((k0 + cnts (x1.take i)) + 1) + 1) + 1) + 1) + 1) : Nat) : Int), (((((((((k0 + cnts (x1.take i)) + 1) + 1) + 1) + 1) + 1) + 1) : Nat) : Int), ((((((((((k0 + cnts (x1.take i)) + 1) + 1) + 1) + 1) + 1) + 1) + 1) : Nat) : Int), (mtx (((((((((k0 + cnts (x1.take i)) + 1) + 1) + 1) + 1) + 1) + 1) + 1) + 1)), (mtx ((((((((((k0 + cnts (x1.take i)) + 1) + 1) + 1) + 1) + 1) + 1) + 1) + 1) + 1)), b56, b57, b58), b6, b7, b8) : T_Inst)).set i ((((((k0 + cnts (x1.take i)) : Nat) : Int), ((((k0 + cnts (x1.take i)) + 1) : Nat) : Int)), (((((k0 + cnts (x1.take i)) + 1) + 1) : Nat) : Int), ((((((k0 + cnts (x1.take i)) + 1) + 1) + 1) : Nat) : Int), (((((((k0 + cnts (x1.take i)) + 1) + 1) + 1) + 1) : Nat) : Int), (((((((((k0 + cnts (x1.take i)) + 1) + 1) + 1) + 1) + 1) : Nat) : Int), (((((((((k0 + cnts (x1.take i)) + 1) + 1) + 1) + 1) + 1) + 1) : Nat) : Int), ((((((((((k0 + cnts (x1.take i)) + 1) + 1) + 1) + 1) + 1) + 1) + 1) : Nat) : Int), (mtx (((((((((k0 + cnts (x1.take i)) + 1) + 1) + 1) + 1) + 1) + 1) + 1) + 1)), (mtx ((((((((((k0 + cnts (x1.take i)) + 1) + 1) + 1) + 1) + 1) + 1) + 1) + 1) + 1)), (mtx (((((((((((k0 + cnts (x1.take i)) + 1) + 1) + 1) + 1) + 1) + 1) + 1) + 1) + 1) + 1)), b57, b58), b6, b7, b8) : T_Inst)).set i ((((((k0 + cnts (x1.take i)) : Nat) : Int), ((((k0 + cnts (x1.take i)) + 1) : Nat) : Int)), (((((k0 + cnts (x1.take i)) + 1) + 1) : Nat) : Int), ((((((k0 + cnts (x1.take i)) + 1) + 1) + 1) : Nat) : Int), (((((((k0 + cnts (x1.take i)) + 1) + 1) + 1) + 1) : Nat) : Int), (((((((((k0 + cnts (x1.take i)) + 1) + 1) + 1) + 1) + 1) : Nat) : Int), (((((((((k0 + cnts (x1.take i)) + 1) + 1) + 1) + 1) + 1) + 1) : Nat) : Int), ((((((((((k0 + cnts (x1.take i)) + 1) + 1) + 1) + 1) + 1) + 1) + 1) : Nat) : Int), (mtx (((((((((k0 + cnts (x1.take i)) + 1) + 1) + 1) + 1) + 1) + 1) + 1) + 1)), (mtx ((((((((((k0 + cnts (x1.take i)) + 1) + 1) + 1) + 1) + 1) + 1) + 1) + 1) + 1)), (mtx (((((((((((k0 + cnts (x1.take i)) + 1) + 1) + 1) + 1) + 1) + 1) + 1) + 1) + 1) + 1)), ((((((((((((((k0 + cnts (x1.take i)) + 1) + 1) + 1) + 1) + 1) + 1) + 1) + 1) + 1) + 1) + 1) : Nat) : Int), b58), b6, b7, b8) : T_Inst)).set i ((((((k0 + cnts (x1.take i)) : Nat) : Int), ((((k0 + cnts (x1.take i)) + 1) : Nat) : Int)), (((((k0 + cnts (x1.take i)) + 1) + 1) : Nat) : Int), ((((((k0 + cnts (x1.take i)) + 1) + 1) + 1) : Nat) : Int), (((((((k0 + cnts (x1.take i)) + 1) + 1) + 1) + 1) : Nat) : Int), (((((((((k0 + cnts (x1.take i)) + 1) + 1) + 1) + 1) + 1) : Nat) : Int), (((((((((k0 + cnts (x1.take i)) + 1) + 1) + 1) + 1) + 1) + 1) : Nat) : Int), ((((((((((k0 + cnts (x1.take i)) + 1) + 1) + 1) + 1) + 1) + 1) + 1) : Nat) : Int), (mtx (((((((((k0 + cnts (x1.take i)) + 1) + 1) + 1) + 1) + 1) + 1) + 1) + 1)), (mtx ((((((((((k0 + cnts (x1.take i)) + 1) + 1) + 1) + 1) + 1) + 1) + 1) + 1) + 1)), (mtx (((((((((((k0 + cnts (x1.take i)) + 1) + 1) + 1) + 1) + 1) + 1) + 1) + 1) + 1) + 1)), ((((((((((((((k0 + cnts (x1.take i)) + 1) + 1) + 1) + 1) + 1) + 1) + 1) + 1) + 1) + 1) + 1) : Nat) : Int), (Mk.mkd (((((((((((((k0 + cnts (x1.take i)) + 1) + 1) + 1) + 1) + 1) + 1) + 1) + 1) + 1) + 1) + 1) + 1) b58)), b6, b7, b8) : T_Inst)).set i ((((((k0 + cnts (x1.take i)) : Nat) : Int), ((((k0 + cnts (x1.take i)) + 1) : Nat) : Int)), (((((k0 + cnts (x1.take i)) + 1) + 1) : Nat) : Int), ((((((k0 + cnts (x1.take i)) + 1) + 1) + 1) : Nat) : Int), (((((((k0 + cnts (x1.take i)) + 1) + 1) + 1) + 1) : Nat) : Int), (((((((((k0 + cnts (x1.take i)) + 1) + 1) + 1) + 1) + 1) : Nat) : Int), (((((((((k0 + cnts (x1.take i)) + 1) + 1) + 1) + 1) + 1) + 1) : Nat) : Int), ((((((((((k0 + cnts (x1.take i)) + 1) + 1) + 1) + 1) + 1) + 1) + 1) : Nat) : Int), (mtx (((((((((k0 + cnts (x1.take i)) + 1) + 1) + 1) + 1) + 1) + 1) + 1) + 1)), (mtx ((((((((((k0 + cnts (x1.take i)) + 1) + 1) + 1) + 1) + 1) + 1) + 1) + 1) + 1)), (mtx (((((((((((k0 + cnts (x1.take i)) + 1) + 1) + 1) + 1) + 1) + 1) + 1) + 1) + 1) + 1)), ((((((((((((((k0 + cnts (x1.take i)) + 1) + 1) + 1) + 1) + 1) + 1) + 1) + 1) + 1) + 1) + 1) : Nat) : Int), (Mk.mkd (((((((((((((k0 + cnts (x1.take i)) + 1) + 1) + 1) + 1) + 1) + 1) + 1) + 1) + 1) + 1) + 1) + 1) b58)), ((((((((((((((((k0 + cnts (x1.take i)) + 1) + 1) + 1) + 1) + 1) + 1) + 1) + 1) + 1) + 1) + 1) + 1) + Mk.cnt b58) : Nat) : Int), b7, b8) : T_Inst)) : List T_Inst)[i]? = some ((((((k0 + cnts (x1.take i)) : Nat) : Int), ((((k0 + cnts (x1.take i)) + 1) : Nat) : Int)), (((((k0 + cnts (x1.take i)) + 1) + 1) : Nat) : Int), ((((((k0 + cnts (x1.take i)) + 1) + 1) + 1) : Nat) : Int), (((((((k0 + cnts (x1.take i)) + 1) + 1) + 1) + 1) : Nat) : Int), (((((((((k0 + cnts (x1.take i)) + 1) + 1) + 1) + 1) + 1) : Nat) : Int), (((((((((k0 + cnts (x1.take i)) + 1) + 1) + 1) + 1) + 1) + 1) : Nat) : Int), ((((((((((k0 + cnts (x1.take i)) + 1) + 1) + 1) + 1) + 1) + 1) + 1) : Nat) : Int), (mtx (((((((((k0 + cnts (x1.take i)) + 1) + 1) + 1) + 1) + 1) + 1) + 1) + 1)), (mtx ((((((((((k0 + cnts (x1.take i)) + 1) + 1) + 1) + 1) + 1) + 1) + 1) + 1) + 1)), (mtx (((((((((((k0 + cnts (x1.take i)) + 1) + 1) + 1) + 1) + 1) + 1) + 1) + 1) + 1) + 1)), ((((((((((((((k0 + cnts (x1.take i)) + 1) + 1) + 1) + 1) + 1) + 1) + 1) + 1) + 1) + 1) + 1) : Nat) : Int), (Mk.mkd (((((((((((((k0 + cnts (x1.take i)) + 1) + 1) + 1) + 1) + 1) + 1) + 1) + 1) + 1) + 1) + 1) + 1) b58)), ((((((((((((((((k0 + cnts (x1.take i)) + 1) + 1) + 1) + 1) + 1) + 1) + 1) + 1) + 1) + 1) + 1) + 1) + Mk.cnt b58) : Nat) : Int), b7, b8) : T_Inst) from set_get (set_get (set_get (set_get (set_get (set_get (set_get (set_get (set_get (set_get (set_get (set_get (set_get (set_get (half_get (k := k0) hu))))))))))))))) (frontPick (by repeat (first | exact Pick.here _ | apply Pick.there)) h)) ?_
      refine L_conv (fun w h => tree_pair h) ?_
      refine L_conv (fun w h => frontPick (Pick.there _ (Pick.here _)) h) ?_
      refine L_conv (fun w h => tree_pair h) ?_
      refine L_conv (fun w h => frontPick (Pick.there _ (Pick.here _)) h) ?_
      refine L_conv (fun w h => tree_pair h) ?_
      refine L_conv (fun w h => frontPick (Pick.there _ (Pick.here _)) h) ?_
      refine L_conv (fun w h => tree_pair h) ?_
      refine L_conv (fun w h => frontPick (Pick.there _ (Pick.here _)) h) ?_
      refine L_conv (fun w h => tree_pair h) ?_
      refine L_conv (fun w h => frontPick (Pick.there _ (Pick.here _)) h) ?_
      refine L_conv (fun w h => tree_pair h) ?_
      refine L_conv (fun w h => frontPick (Pick.there _ (Pick.here _)) h) ?_
      refine L_conv (fun w h => tree_pair h) ?_
      refine L_call1 rfl fn236 rfl (Pick.here _) (by exact fun w hw => markIdS_spec w b7 (((((((((((((((k0 + cnts (x1.take i)) + 1) + 1) + 1) + 1) + 1) + 1) + 1) + 1) + 1) + 1) + 1) + 1) + Mk.cnt b58) + 1) (by omega) (by omega)) ?_
      rintro v M1 ⟨hv, rfl⟩
      subst hv
      simp only [List.cons_append, List.nil_append]
      refine L_conv (fun w h => pairFront (Pick.here _) h) ?_
      refine L_conv (fun w h => pairPick (Pick.here _) h) ?_
      refine L_conv (fun w h => pairPick (Pick.here _) h) ?_
      refine L_conv (fun w h => pairPick (Pick.here _) h) ?_
      refine L_conv (fun w h => pairPick (Pick.here _) h) ?_
      refine L_conv (fun w h => pairPick (Pick.here _) h) ?_
      refine L_conv (fun w h => pairPick (Pick.here _) h) ?_
      refine L_conv (M' := treeH (⟨some ⟨g, 0, none⟩, c1, e1, ((((((((((((((((half k0 i x1).set i ((((((k0 + cnts (x1.take i)) : Nat) : Int), b12), b2, b3, b4, (b51, b52, b53, b54, b55, b56, b57, b58), b6, b7, b8) : T_Inst)).set i ((((((k0 + cnts (x1.take i)) : Nat) : Int), ((((k0 + cnts (x1.take i)) + 1) : Nat) : Int)), b2, b3, b4, (b51, b52, b53, b54, b55, b56, b57, b58), b6, b7, b8) : T_Inst)).set i ((((((k0 + cnts (x1.take i)) : Nat) : Int), ((((k0 + cnts (x1.take i)) + 1) : Nat) : Int)), (((((k0 + cnts (x1.take i)) + 1) + 1) : Nat) : Int), b3, b4, (b51, b52, b53, b54, b55, b56, b57, b58), b6, b7, b8) : T_Inst)).set i ((((((k0 + cnts (x1.take i)) : Nat) : Int), ((((k0 + cnts (x1.take i)) + 1) : Nat) : Int)), (((((k0 + cnts (x1.take i)) + 1) + 1) : Nat) : Int), ((((((k0 + cnts (x1.take i)) + 1) + 1) + 1) : Nat) : Int), b4, (b51, b52, b53, b54, b55, b56, b57, b58), b6, b7, b8) : T_Inst)).set i ((((((k0 + cnts (x1.take i)) : Nat) : Int), ((((k0 + cnts (x1.take i)) + 1) : Nat) : Int)), (((((k0 + cnts (x1.take i)) + 1) + 1) : Nat) : Int), ((((((k0 + cnts (x1.take i)) + 1) + 1) + 1) : Nat) : Int), (((((((k0 + cnts (x1.take i)) + 1) + 1) + 1) + 1) : Nat) : Int), (b51, b52, b53, b54, b55, b56, b57, b58), b6, b7, b8) : T_Inst)).set i ((((((k0 + cnts (x1.take i)) : Nat) : Int), ((((k0 + cnts (x1.take i)) + 1) : Nat) : Int)), (((((k0 + cnts (x1.take i)) + 1) + 1) : Nat) : Int), ((((((k0 + cnts (x1.take i)) + 1) + 1) + 1) : Nat) : Int), (((((((k0 + cnts (x1.take i)) + 1) + 1) + 1) + 1) : Nat) : Int), (((((((((k0 + cnts (x1.take i)) + 1) + 1) + 1) + 1) + 1) : Nat) : Int), b52, b53, b54, b55, b56, b57, b58), b6, b7, b8) : T_Inst)).set i ((((((k0 + cnts (x1.take i)) : Nat) : Int), ((((k0 + cnts (x1.take i)) + 1) : Nat) : Int)), (((((k0 + cnts (x1.take i)) + 1) + 1) : Nat) : Int), ((((((k0 + cnts (x1.take i)) + 1) + 1) + 1) : Nat) : Int), (((((((k0 + cnts (x1.take i)) + 1) + 1) + 1) + 1) : Nat) : Int), (((((((((k0 + cnts (x1.take i)) + 1) + 1) + 1) + 1) + 1) : Nat) : Int), (((((((((k0 + cnts (x1.take i)) + 1) + 1) + 1) + 1) + 1) + 1) : Nat) : Int), b53, b54, b55, b56, b57, b58), b6, b7, b8) : T_Inst)).set i ((((((k0 + cnts (x1.take i)) : Nat) : Int), ((((k0 + cnts (x1.take i)) + 1) : Nat) : Int)), (((((k0 + cnts (x1.take i)) + 1) + 1) : Nat) : Int), ((((((k0 + cnts (x1.take i)) + 1) + 1) + 1) : Nat) : Int), (((((((k0 + cnts (x1.take i)) + 1) + 1) + 1) + 1) : Nat) : Int), (((((((((k0 + cnts (x1.take i)) + 1) + 1) + 1) + 1) + 1) : Nat) : Int), (((((((((k0 + cnts (x1.take i)) + 1) + 1) + 1) + 1) + 1) + 1) : Nat) : Int), ((((((((((k0 + cnts (x1.take i)) + 1) + 1) + 1) + 1) + 1) + 1) + 1) : Nat) : Int), b54, b55, b56, b57, b58), b6, b7, b8) : T_Inst)).set i ((((((k0 + cnts (x1.take i)) : Nat) : Int), ((((k0 + cnts (x1.take i)) + 1) : Nat) : Int)), (((((k0 + cnts (x1.take i)) + 1) + 1) : Nat) : Int), ((((((k0 + cnts (x1.take i)) + 1) + 1) + 1) : Nat) : Int), (((((((k0 + cnts (x1.take i)) + 1) + 1) + 1) + 1) : Nat) : Int), (((((((((k0 + cnts (x1.take i)) + 1) + 1) + 1) + 1) + 1) : Nat) : Int), (((((((((k0 + cnts (x1.take i)) + 1) + 1) + 1) + 1) + 1) + 1) : Nat) : Int), ((((((((((k0 + cnts (x1.take i)) + 1) + 1) + 1) + 1) + 1) + 1) + 1) : Nat) : Int), (mtx (((((((((k0 + cnts (x1.take i)) + 1) + 1) + 1) + 1) + 1) + 1) + 1) + 1)), b55, b56, b57, b58), b6, b7, b8) : T_Inst)).set i ((((((k0 + cnts (x1.take i)) : Nat) : Int), ((((k0 + cnts (x1.take i)) + 1) : Nat) : Int)), (((((k0 + cnts (x1.take i)) + 1) + 1) : Nat) : Int), ((((((k0 + cnts (x1.take i)) + 1) + 1) + 1) : Nat) : Int), (((((((k0 + cnts (x1.take i)) + 1) + 1) + 1) + 1) : Nat) : Int), (((((((((k0 + cnts (x1.take i)) + 1) + 1) + 1) + 1) + 1) : Nat) : Int), (((((((((k0 + cnts (x1.take i)) + 1) + 1) + 1) + 1) + 1) + 1) : Nat) : Int), ((((((((((k0 + cnts (x1.take i)) + 1) + 1) + 1) + 1) + 1) + 1) + 1) : Nat) : Int), (mtx (((((((((k0 + cnts (x1.take i)) + 1) + 1) + 1) + 1) + 1) + 1) + 1) + 1)), (mtx ((((((((((k0 + cnts (x1.take i)) + 1) + 1) + 1) + 1) + 1) + 1) + 1) + 1) + 1)), b56, b57, b58), b6, b7, b8) : T_Inst)).set i ((((((k0 + cnts (x1.take i)) : Nat) : Int), ((((k0 + cnts (x1.take i)) + 1) : Nat) : Int)), (((((k0 + cnts (x1.take i)) + 1) + 1) : Nat) : Int), ((((((k0 + cnts (x1.take i)) + 1) + 1) + 1) : Nat) : Int), (((((((k0 + cnts (x1.take i)) + 1) + 1) + 1) + 1) : Nat) : Int), (((((((((k0 + cnts (x1.take i)) + 1) + 1) + 1) + 1) + 1) : Nat) : Int), (((((((((k0 + cnts (x1.take i)) + 1) + 1) + 1) + 1) + 1) + 1) : Nat) : Int), ((((((((((k0 + cnts (x1.take i)) + 1) + 1) + 1) + 1) + 1) + 1) + 1) : Nat) : Int), (mtx (((((((((k0 + cnts (x1.take i)) + 1) + 1) + 1) + 1) + 1) + 1) + 1) + 1)), (mtx ((((((((((k0 + cnts (x1.take i)) + 1) + 1) + 1) + 1) + 1) + 1) + 1) + 1) + 1)), (mtx (((((((((((k0 + cnts (x1.take i)) + 1) + 1) + 1) + 1) + 1) + 1) + 1) + 1) + 1) + 1)), b57, b58), b6, b7, b8) : T_Inst)).set i ((((((k0 + cnts (x1.take i)) : Nat) : Int), ((((k0 + cnts (x1.take i)) + 1) : Nat) : Int)), (((((k0 + cnts (x1.take i)) + 1) + 1) : Nat) : Int), ((((((k0 + cnts (x1.take i)) + 1) + 1) + 1) : Nat) : Int), (((((((k0 + cnts (x1.take i)) + 1) + 1) + 1) + 1) : Nat) : Int), (((((((((k0 + cnts (x1.take i)) + 1) + 1) + 1) + 1) + 1) : Nat) : Int), (((((((((k0 + cnts (x1.take i)) + 1) + 1) + 1) + 1) + 1) + 1) : Nat) : Int), ((((((((((k0 + cnts (x1.take i)) + 1) + 1) + 1) + 1) + 1) + 1) + 1) : Nat) : Int), (mtx (((((((((k0 + cnts (x1.take i)) + 1) + 1) + 1) + 1) + 1) + 1) + 1) + 1)), (mtx ((((((((((k0 + cnts (x1.take i)) + 1) + 1) + 1) + 1) + 1) + 1) + 1) + 1) + 1)), (mtx (((((((((((k0 + cnts (x1.take i)) + 1) + 1) + 1) + 1) + 1) + 1) + 1) + 1) + 1) + 1)), ((((((((((((((k0 + cnts (x1.take i)) + 1) + 1) + 1) + 1) + 1) + 1) + 1) + 1) + 1) + 1) + 1) : Nat) : Int), b58), b6, b7, b8) : T_Inst)).set i ((((((k0 + cnts (x1.take i)) : Nat) : Int), ((((k0 + cnts (x1.take i)) + 1) : Nat) : Int)), (((((k0 + cnts (x1.take i)) + 1) + 1) : Nat) : Int), ((((((k0 + cnts (x1.take i)) + 1) + 1) + 1) : Nat) : Int), (((((((k0 + cnts (x1.take i)) + 1) + 1) + 1) + 1) : Nat) : Int), (((((((((k0 + cnts (x1.take i)) + 1) + 1) + 1) + 1) + 1) : Nat) : Int), (((((((((k0 + cnts (x1.take i)) + 1) + 1) + 1) + 1) + 1) + 1) : Nat) : Int), ((((((((((k0 + cnts (x1.take i)) + 1) + 1) + 1) + 1) + 1) + 1) + 1) : Nat) : Int), (mtx (((((((((k0 + cnts (x1.take i)) + 1) + 1) + 1) + 1) + 1) + 1) + 1) + 1)), (mtx ((((((((((k0 + cnts (x1.take i)) + 1) + 1) + 1) + 1) + 1) + 1) + 1) + 1) + 1)), (mtx (((((((((((k0 + cnts (x1.take i)) + 1) + 1) + 1) + 1) + 1) + 1) + 1) + 1) + 1) + 1)), ((((((((((((((k0 + cnts (x1.take i)) + 1) + 1) + 1) + 1) + 1) + 1) + 1) + 1) + 1) + 1) + 1) : Nat) : Int), (Mk.mkd (((((((((((((k0 + cnts (x1.take i)) + 1) + 1) + 1) + 1) + 1) + 1) + 1) + 1) + 1) + 1) + 1) + 1) b58)), b6, b7, b8) : T_Inst)).set i ((((((k0 + cnts (x1.take i)) : Nat) : Int), ((((k0 + cnts (x1.take i)) + 1) : Nat) : Int)), (((((k0 + cnts (x1.take i)) + 1) + 1) : Nat) : Int), ((((((k0 + cnts (x1.take i)) + 1) + 1) + 1) : Nat) : Int), (((((((k0 + cnts (x1.take i)) + 1) + 1) + 1) + 1) : Nat) : Int), (((((((((k0 + cnts (x1.take i)) + 1) + 1) + 1) + 1) + 1) : Nat) : Int), (((((((((k0 + cnts (x1.take i)) + 1) + 1) + 1) + 1) + 1) + 1) : Nat) : Int), ((((((((((k0 + cnts (x1.take i)) + 1) + 1) + 1) + 1) + 1) + 1) + 1) : Nat) : Int), (mtx (((((((((k0 + cnts (x1.take i)) + 1) + 1) + 1) + 1) + 1) + 1) + 1) + 1)), (mtx ((((((((((k0 + cnts (x1.take i)) + 1) + 1) + 1) + 1) + 1) + 1) + 1) + 1) + 1)), (mtx (((((((((((k0 + cnts (x1.take i)) + 1) + 1) + 1) + 1) + 1) + 1) + 1) + 1) + 1) + 1)), ((((((((((((((k0 + cnts (x1.take i)) + 1) + 1) + 1) + 1) + 1) + 1) + 1) + 1) + 1) + 1) + 1) : Nat) : Int), (Mk.mkd (((((((((((((k0 + cnts (x1.take i)) + 1) + 1) + 1) + 1) + 1) + 1) + 1) + 1) + 1) + 1) + 1) + 1) b58)), ((((((((((((((((k0 + cnts (x1.take i)) + 1) + 1) + 1) + 1) + 1) + 1) + 1) + 1) + 1) + 1) + 1) + 1) + Mk.cnt b58) : Nat) : Int), b7, b8) : T_Inst)).set i ((((((k0 + cnts (x1.take i)) : Nat) : Int), ((((k0 + cnts (x1.take i)) + 1) : Nat) : Int)), (((((k0 + cnts (x1.take i)) + 1) + 1) : Nat) : Int), ((((((k0 + cnts (x1.take i)) + 1) + 1) + 1) : Nat) : Int), (((((((k0 + cnts (x1.take i)) + 1) + 1) + 1) + 1) : Nat) : Int), (((((((((k0 + cnts (x1.take i)) + 1) + 1) + 1) + 1) + 1) : Nat) : Int), (((((((((k0 + cnts (x1.take i)) + 1) + 1) + 1) + 1) + 1) + 1) : Nat) : Int), ((((((((((k0 + cnts (x1.take i)) + 1) + 1) + 1) + 1) + 1) + 1) + 1) : Nat) : Int), (mtx (((((((((k0 + cnts (x1.take i)) + 1) + 1) + 1) + 1) + 1) + 1) + 1) + 1)), (mtx ((((((((((k0 + cnts (x1.take i)) + 1) + 1) + 1) + 1) + 1) + 1) + 1) + 1) + 1)), (mtx (((((((((((k0 + cnts (x1.take i)) + 1) + 1) + 1) + 1) + 1) + 1) + 1) + 1) + 1) + 1)), ((((((((((((((k0 + cnts (x1.take i)) + 1) + 1) + 1) + 1) + 1) + 1) + 1) + 1) + 1) + 1) + 1) : Nat) : Int), (Mk.mkd (((((((((((((k0 + cnts (x1.take i)) + 1) + 1) + 1) + 1) + 1) + 1) + 1) + 1) + 1) + 1) + 1) + 1) b58)), ((((((((((((((((k0 + cnts (x1.take i)) + 1) + 1) + 1) + 1) + 1) + 1) + 1) + 1) + 1) + 1) + 1) + 1) + Mk.cnt b58) : Nat) : Int), (Mk.mkd (((((((((((((((k0 + cnts (x1.take i)) + 1) + 1) + 1) + 1) + 1) + 1) + 1) + 1) + 1) + 1) + 1) + 1) + Mk.cnt b58) + 1) b7), b8) : T_Inst)), y1⟩ : TL T_Inst) :: _) (fun w h => el_in (L := (⟨some ⟨g, 0, none⟩, c1, e1, (((((((((((((((half k0 i x1).set i ((((((k0 + cnts (x1.take i)) : Nat) : Int), b12), b2, b3, b4, (b51, b52, b53, b54, b55, b56, b57, b58), b6, b7, b8) : T_Inst)).set i ((((((k0 + cnts (x1.take i)) : Nat) : Int), ((((k0 + cnts (x1.take i)) + 1) : Nat) : Int)), b2, b3, b4, (b51, b52, b53, b54, b55, b56, b57, b58), b6, b7, b8) : T_Inst)).set i ((((((k0 + cnts (x1.take i)) : Nat) : Int), ((((k0 + cnts (x1.take i)) + 1) : Nat) : Int)), (((((k0 + cnts (x1.take i)) + 1) + 1) : Nat) : Int), b3, b4, (b51, b52, b53, b54, b55, b56, b57, b58), b6, b7, b8) : T_Inst)).set i ((((((k0 + cnts (x1.take i)) : Nat) : Int), ((((k0 + cnts (x1.take i)) + 1) : Nat) : Int)), (((((k0 + cnts (x1.take i)) + 1) + 1) : Nat) : Int), ((((((k0 + cnts (x1.take i)) + 1) + 1) + 1) : Nat) : Int), b4, (b51, b52, b53, b54, b55, b56, b57, b58), b6, b7, b8) : T_Inst)).set i ((((((k0 + cnts (x1.take i)) : Nat) : Int), ((((k0 + cnts (x1.take i)) + 1) : Nat) : Int)), (((((k0 + cnts (x1.take i)) + 1) + 1) : Nat) : Int), ((((((k0 + cnts (x1.take i)) + 1) + 1) + 1) : Nat) : Int), (((((((k0 + cnts (x1.take i)) + 1) + 1) + 1) + 1) : Nat) : Int), (b51, b52, b53, b54, b55, b56, b57, b58), b6, b7, b8) : T_Inst)).set i ((((((k0 + cnts (x1.take i)) : Nat) : Int), ((((k0 + cnts (x1.take i)) + 1) : Nat) : Int)), (((((k0 + cnts (x1.take i)) + 1) + 1) : Nat) : Int), ((((((k0 + cnts (x1.take i)) + 1) + 1) + 1) : Nat) : Int), (((((((k0 + cnts (x1.take i)) + 1) + 1) + 1) + 1) : Nat) : Int), (((((((((k0 + cnts (x1.take i)) + 1) + 1) + 1) + 1) + 1) : Nat) : Int), b52, b53, b54, b55, b56, b57, b58), b6, b7, b8) : T_Inst)).set i ((((((k0 + cnts (x1.take i)) : Nat) : Int), ((((k0 + cnts (x1.take i)) + 1) : Nat) : Int)), (((((k0 + cnts (x1.take i)) + 1) + 1) : Nat) : Int), ((((((k0 + cnts (x1.take i)) + 1) + 1) + 1) : Nat) : Int), (((((((k0 + cnts (x1.take i)) + 1) + 1) + 1) + 1) : Nat) : Int), (((((((((k0 + cnts (x1.take i)) + 1) + 1) + 1) + 1) + 1) : Nat) : Int), (((((((((k0 + cnts (x1.take i)) + 1) + 1) + 1) + 1) + 1) + 1) : Nat) : Int), b53, b54, b55, b56, b57, b58), b6, b7, b8) : T_Inst)).set i ((((((k0 + cnts (x1.take i)) : Nat) : Int), ((((k0 + cnts (x1.take i)) + 1) : Nat) : Int)), (((((k0 + cnts (x1.take i)) + 1) + 1) : Nat) : Int), ((((((k0 + cnts (x1.take i)) + 1) + 1) + 1) : Nat) : Int), (((((((k0 + cnts (x1.take i)) + 1) + 1) + 1) + 1) : Nat) : Int), (((((((((k0 + cnts (x1.take i)) + 1) + 1) + 1) + 1) + 1) : Nat) : Int), (((((((((k0 + cnts (x1.take i)) + 1) + 1) + 1) + 1) + 1) + 1) : Nat) : Int), ((((((((((k0 + cnts (x1.take i)) + 1) + 1) + 1) + 1) + 1) + 1) + 1) : Nat) : Int), b54, b55, b56, b57, b58), b6, b7, b8) : T_Inst)).set i ((((((k0 + cnts (x1.take i)) : Nat) : Int), ((((k0 + cnts (x1.take i)) + 1) : Nat) : Int)), (((((k0 + cnts (x1.take i)) + 1) + 1) : Nat) : Int), ((((((k0 + cnts (x1.take i)) + 1) + 1) + 1) : Nat) : Int), (((((((k0 + cnts (x1.take i)) + 1) + 1) + 1) + 1) : Nat) : Int), (((((((((k0 + cnts (x1.take i)) + 1) + 1) + 1) + 1) + 1) : Nat) : Int), (((((((((k0 + cnts (x1.take i)) + 1) + 1) + 1) + 1) + 1) + 1) : Nat) : Int), ((((((((((k0 + cnts (x1.take i)) + 1) + 1) + 1) + 1) + 1) + 1) + 1) : Nat) : Int), (mtx (((((((((k0 + cnts (x1.take i)) + 1) + 1) + 1) + 1) + 1) + 1) + 1) + 1)), b55, b56, b57, b58), b6, b7, b8) : T_Inst)).set i ((((((k0 + cnts (x1.take i)) : Nat) : Int), ((((k0 + cnts (x1.take i)) + 1) : Nat) : Int)), (((((k0 + cnts (x1.take i)) + 1) + 1) : Nat) : Int), ((((((k0 + cnts (x1.take i)) + 1) + 1) + 1) : Nat) : Int), (((((((k0 + cnts (x1.take i)) + 1) + 1) + 1) + 1) : Nat) : Int), (((((((((k0 + cnts (x1.take i)) + 1) + 1) + 1) + 1) + 1) : Nat) : Int), (((((((((k0 + cnts (x1.take i)) + 1) + 1) + 1) + 1) + 1) + 1) : Nat) : Int), ((((((((((k0 + cnts (x1.take i)) + 1) + 1) + 1) + 1) + 1) + 1) + 1) : Nat) : Int), (mtx (((((((((k0 + cnts (x1.take i)) + 1) + 1) + 1) + 1) + 1) + 1) + 1) + 1)), (mtx ((((((((((k0 + cnts (x1.take i)) + 1) + 1) + 1) + 1) + 1) + 1) + 1) + 1) + 1)), b56, b57, b58), b6, b7, b8) : T_Inst)).set i ((((((k0 + cnts (x1.take i)) : Nat) : Int), ((((k0 + cnts (x1.take i)) + 1) : Nat) : Int)), (((((k0 + cnts (x1.take i)) + 1) + 1) : Nat) : Int), ((((((k0 + cnts (x1.take i)) + 1) + 1) + 1) : Nat) : Int), (((((((k0 + cnts (x1.take i)) + 1) + 1) + 1) + 1) : Nat) : Int), (((((((((k0 + cnts (x1.take i)) + 1) + 1) + 1) + 1) + 1) : Nat) : Int), (((((((((k0 + cnts (x1.take i)) + 1) + 1) + 1) + 1) + 1) + 1) : Nat) : Int), ((((((((((k0 + cnts (x1.take i)) + 1) + 1) + 1) + 1) + 1) + 1) + 1) : Nat) : Int), (mtx (((((((((k0 + cnts (x1.take i)) + 1) + 1) + 1) + 1) + 1) + 1) + 1) + 1)), (mtx ((((((((((k0 + cnts (x1.take i)) + 1) + 1) + 1) + 1) + 1) + 1) + 1) + 1) + 1)), (mtx (((((((((((k0 + cnts (x1.take i)) + 1) + 1) + 1) + 1) + 1) + 1) + 1) + 1) + 1) + 1)), b57, b58), b6, b7, b8) : T_Inst)).set i ((((((k0 + cnts (x1.take i)) : Nat) : Int), ((((k0 + cnts (x1.take i)) + 1) : Nat) : Int)), (((((k0 + cnts (x1.take i)) + 1) + 1) : Nat) : Int), ((((((k0 + cnts (x1.take i)) + 1) + 1) + 1) : Nat) : Int), (((((((k0 + cnts (x1.take i)) + 1) + 1) + 1) + 1) : Nat) : Int), (((((((((k0 + cnts (x1.take i)) + 1) + 1) + 1) + 1) + 1) : Nat) : Int), (((((((((k0 + cnts (x1.take i)) + 1) + 1) + 1) + 1) + 1) + 1) : Nat) : Int), ((((((((((k0 + cnts (x1.take i)) + 1) + 1) + 1) + 1) + 1) + 1) + 1) : Nat) : Int), (mtx (((((((((k0 + cnts (x1.take i)) + 1) + 1) + 1) + 1) + 1) + 1) + 1) + 1)), (mtx ((((((((((k0 + cnts (x1.take i)) + 1) + 1) + 1) + 1) + 1) + 1) + 1) + 1) + 1)), (mtx (((((((((((k0 + cnts (x1.take i)) + 1) + 1) + 1) + 1) + 1) + 1) + 1) + 1) + 1) + 1)), ((((((((((((((k0 + cnts (x1.take i)) + 1) + 1) + 1) + 1) + 1) + 1) + 1) + 1) + 1) + 1) + 1) : Nat) : Int), b58), b6, b7, b8) : T_Inst)).set i ((((((k0 + cnts (x1.take i)) : Nat) : Int), ((((k0 + cnts (x1.take i)) + 1) : Nat) : Int)), (((((k0 + cnts (x1.take i)) + 1) + 1) : Nat) : Int), ((((((k0 + cnts (x1.take i)) + 1) + 1) + 1) : Nat) : Int), (((((((k0 + cnts (x1.take i)) + 1) + 1) + 1) + 1) : Nat) : Int), (((((((((k0 + cnts (x1.take i)) + 1) + 1) + 1) + 1) + 1) : Nat) : Int), (((((((((k0 + cnts (x1.take i)) + 1) + 1) + 1) + 1) + 1) + 1) : Nat) : Int), ((((((((((k0 + cnts (x1.take i)) + 1) + 1) + 1) + 1) + 1) + 1) + 1) : Nat) : Int), (mtx (((((((((k0 + cnts (x1.take i)) + 1) + 1) + 1) + 1) + 1) + 1) + 1) + 1)), (mtx ((((((((((k0 + cnts (x1.take i)) + 1) + 1) + 1) + 1) + 1) + 1) + 1) + 1) + 1)), (mtx (((((((((((k0 + cnts (x1.take i)) + 1) + 1) + 1) + 1) + 1) + 1) + 1) + 1) + 1) + 1)), ((((((((((((((k0 + cnts (x1.take i)) + 1) + 1) + 1) + 1) + 1) + 1) + 1) + 1) + 1) + 1) + 1) : Nat) : Int), (Mk.mkd (((((((((((((k0 + cnts (x1.take i)) + 1) + 1) + 1) + 1) + 1) + 1) + 1) + 1) + 1) + 1) + 1) + 1) b58)), b6, b7, b8) : T_Inst)).set i ((((((k0 + cnts (x1.take i)) : Nat) : Int), ((((k0 + cnts (x1.take i)) + 1) : Nat) : Int)), (((((k0 + cnts (x1.take i)) + 1) + 1) : Nat) : Int), ((((((k0 + cnts (x1.take i)) + 1) + 1) + 1) : Nat) : Int), (((((((k0 + cnts (x1.take i)) + 1) + 1) + 1) + 1) : Nat) : Int), (((((((((k0 + cnts (x1.take i)) + 1) + 1) + 1) + 1) + 1) : Nat) : Int), (((((((((k0 + cnts (x1.take i)) + 1) + 1) + 1) + 1) + 1) + 1) : Nat) : Int), ((((((((((k0 + cnts (x1.take i)) + 1) + 1) + 1) + 1) + 1) + 1) + 1) : Nat) : Int), (mtx (((((((((k0 + cnts (x1.take i)) + 1) + 1) + 1) + 1) + 1) + 1) + 1) + 1)), (mtx ((((((((((k0 + cnts (x1.take i)) + 1) + 1) + 1) + 1) + 1) + 1) + 1) + 1) + 1)), (mtx (((((((((((k0 + cnts (x1.take i)) + 1) + 1) + 1) + 1) + 1) + 1) + 1) + 1) + 1) + 1)), ((((((((((((((k0 + cnts (x1.take i)) + 1) + 1) + 1) + 1) + 1) + 1) + 1) + 1) + 1) + 1) + 1) : Nat) : Int), (Mk.mkd (((((((((((((k0 + cnts (x1.take i)) + 1) + 1) + 1) + 1) + 1) + 1) + 1) + 1) + 1) + 1) + 1) + 1) b58)), ((((((((((((((((k0 + cnts (x1.take i)) + 1) + 1) + 1) + 1) + 1) + 1) + 1) + 1) + 1) + 1) + 1) + 1) + Mk.cnt b58) : Nat) : Int), b7, b8) : T_Inst)), y1⟩ : TL T_Inst)) (show ((((((((((((((((half k0 i x1).set i ((((((k0 + cnts (x1.take i)) : Nat) : Int), b12), b2, b3, b4, (b51, b52, b53, b54, b55, b56, b57, b58), b6, b7, b8) : T_Inst)).set i ((((((k0 + cnts (x1.take i)) : Nat) : Int), ((((k0 + cnts (x1.take i)) + 1) : Nat) : Int)), b2, b3, b4, (b51, b52, b53, b54, b55, b56, b57, b58), b6, b7, b8) : T_Inst)).set i ((((((k0 + cnts (x1.take i)) : Nat) : Int), ((((k0 + cnts (x1.take i)) + 1) : Nat) : Int)), (((((k0 + cnts (x1.take i)) + 1) + 1) : Nat) : Int), b3, b4, (b51, b52, b53, b54, b55, b56, b57, b58), b6, b7, b8) : T_Inst)).set i ((((((k0 + cnts (x1.take i)) : Nat) : Int), ((((k0 + cnts (x1.take i)) + 1) : Nat) : Int)), (((((k0 + cnts (x1.take i)) + 1) + 1) : Nat) : Int), ((((((k0 + cnts (x1.take i)) + 1) + 1) + 1) : Nat) : Int), b4, (b51, b52, b53, b54, b55, b56, b57, b58), b6, b7, b8) : T_Inst)).set i ((((((k0 + cnts (x1.take i)) : Nat) : Int), ((((k0 + cnts (x1.take i)) + 1) : Nat) : Int)), (((((k0 + cnts (x1.take i)) + 1) + 1) : Nat) : Int), ((((((k0 + cnts (x1.take i)) + 1) + 1) + 1) : Nat) : Int), (((((((k0 + cnts (x1.take i)) + 1) + 1) + 1) + 1) : Nat) : Int), (b51, b52, b53, b54, b55, b56, b57, b58), b6, b7, b8) : T_Inst)).set i ((((((k0 + cnts (x1.take i)) : Nat) : Int), ((((k0 + cnts (x1.take i)) + 1) : Nat) : Int)), (((((k0 + cnts (x1.take i)) + 1) + 1) : Nat) : Int), ((((((k0 + cnts (x1.take i)) + 1) + 1) + 1) : Nat) : Int), (((((((k0 + cnts (x1.take i)) + 1) + 1) + 1) + 1) : Nat) : Int), (((((((((k0 + cnts (x1.take i)) + 1) + 1) + 1) + 1) + 1) : Nat) : Int), b52, b53, b54, b55, b56, b57, b58), b6, b7, b8) : T_Inst)).set i ((((((k0 + cnts (x1.take i)) : Nat) : Int), ((((k0 + cnts (x1.take i)) + 1) : Nat) : Int)), (((((k0 + cnts (x1.take i)) + 1) + 1) : Nat) : Int), ((((((k0 + cnts (x1.take i)) + 1) + 1) + 1) : Nat) : Int), (((((((k0 + cnts (x1.take i)) + 1) + 1) + 1) + 1) : Nat) : Int), (((((((((k0 + cnts (x1.take i)) + 1) + 1) + 1) + 1) + 1) : Nat) : Int), (((((((((k0 + cnts (x1.take i)) + 1) + 1) + 1) + 1) + 1) + 1) : Nat) : Int), b53, b54, b55, b56, b57, b58), b6, b7, b8) : T_Inst)).set i ((((((k0 + cnts (x1.take i)) : Nat) : Int), ((((k0 + cnts (x1.take i)) + 1) : Nat) : Int)), (((((k0 + cnts (x1.take i)) + 1) + 1) : Nat) : Int), ((((((k0 + cnts (x1.take i)) + 1) + 1) + 1) : Nat) : Int), (((((((k0 + cnts (x1.take i)) + 1) + 1) + 1) + 1) : Nat) : Int), (((((((((k0 + cnts (x1.take i)) + 1) + 1) + 1) + 1) + 1) : Nat) : Int), (((((((((k0 + cnts (x1.take i)) + 1) + 1) + 1) + 1) + 1) + 1) : Nat) : Int), ((((((((((k0 + cnts (x1.take i)) + 1) + 1) + 1) + 1) + 1) + 1) + 1) : Nat) : Int), b54, b55, b56, b57, b58), b6, b7, b8) : T_Inst)).set i ((((((k0 + cnts (x1.take i)) : Nat) : Int), ((((k0 + cnts (x1.take i)) + 1) : Nat) : Int)), (((((k0 + cnts (x1.take i)) + 1) + 1) : Nat) : Int), ((((((k0 + cnts (x1.take i)) + 1) + 1) + 1) : Nat) : Int), (((((((k0 + cnts (x1.take i)) + 1) + 1) + 1) + 1) : Nat) : Int), (((((((((k0 + cnts (x1.take i)) + 1) + 1) + 1) + 1) + 1) : Nat) : Int), (((((((((k0 + cnts (x1.take i)) + 1) + 1) + 1) + 1) + 1) + 1) : Nat) : Int), ((((((((((k0 + cnts (x1.take i)) + 1) + 1) + 1) + 1) + 1) + 1) + 1) : Nat) : Int), (mtx (((((((((k0 + cnts (x1.take i)) + 1) + 1) + 1) + 1) + 1) + 1) + 1) + 1)), b55, b56, b57, b58), b6, b7, b8) : T_Inst)).set i ((((((k0 + cnts (x1.take i)) : Nat) : Int), ((((k0 + cnts (x1.take i)) + 1) : Nat) : Int)), (((((k0 + cnts (x1.take i)) + 1) + 1) : Nat) : Int), ((((((k0 + cnts (x1.take i)) + 1) + 1) + 1) : Nat) : Int), (((((((k0 + cnts (x1.take i)) + 1) + 1) + 1) + 1) : Nat) : Int), (((((((((k0 + cnts (x1.take i)) + 1) + 1) + 1) + 1) + 1) : Nat) : Int), (((((((((k0 + cnts (x1.take i)) + 1) + 1) + 1) + 1) + 1) + 1) : Nat) : Int), ((((((((((k0 + cnts (x1.take i)) + 1) + 1) + 1) + 1) + 1) + 1) + 1) : Nat) : Int), (mtx (((((((((k0 + cnts (x1.take i)) + 1) + 1) + 1) + 1) + 1) + 1) + 1) + 1)), (mtx ((((((((((k0 + cnts (x1.take i)) + 1) + 1) + 1) + 1) + 1) + 1) + 1) + 1) + 1)), b56, b57, b58), b6, b7, b8) : T_Inst)).set i ((((((k0 + cnts (x1.take i)) : Nat) : Int), ((((k0 + cnts (x1.take i)) + 1) : Nat) : Int)), (((((k0 + cnts (x1.take i)) + 1) + 1) : Nat) : Int), ((((((k0 + cnts (x1.take i)) + 1) + 1) + 1) : Nat) : Int), (((((((k0 + cnts (x1.take i)) + 1) + 1) + 1) + 1) : Nat) : Int), (((((((((k0 + cnts (x1.take i)) + 1) + 1) + 1) + 1) + 1) : Nat) : Int), (((((((((k0 + cnts (x1.take i)) + 1) + 1) + 1) + 1) + 1) + 1) : Nat) : Int), ((((((((((k0 + cnts (x1.take i)) + 1) + 1) + 1) + 1) + 1) + 1) + 1) : Nat) : Int), (mtx (((((((((k0 + cnts (x1.take i)) + 1) + 1) + 1) + 1) + 1) + 1) + 1) + 1)), (mtx ((((((((((k0 + cnts (x1.take i)) + 1) + 1) + 1) + 1) + 1) + 1) + 1) + 1) + 1)), (mtx (((((((((((k0 + cnts (x1.take i)) + 1) + 1) + 1) + 1) + 1) + 1) + 1) + 1) + 1) + 1)), b57, b58), b6, b7, b8) : T_Inst)).set i ((((((k0 + cnts (x1.take i)) : Nat) : Int), ((((k0 + cnts (x1.take i)) + 1) : Nat) : Int)), (((((k0 + cnts (x1.take i)) + 1) + 1) : Nat) : Int), ((((((k0 + cnts (x1.take i)) + 1) + 1) + 1) : Nat) : Int), (((((((k0 + cnts (x1.take i)) + 1) + 1) + 1) + 1) : Nat) : Int), (((((((((k0 + cnts (x1.take i)) + 1) + 1) + 1) + 1) + 1) : Nat) : Int), (((((((((k0 + cnts (x1.take i)) + 1) + 1) + 1) + 1) + 1) + 1) : Nat) : Int), ((((((((((k0 + cnts (x1.take i)) + 1) + 1) + 1) + 1) + 1) + 1) + 1) : Nat) : Int), (mtx (((((((((k0 + cnts (x1.take i)) + 1) + 1) + 1) + 1) + 1) + 1) + 1) + 1)), (mtx ((((((((((k0 + cnts (x1.take i)) + 1) + 1) + 1) + 1) + 1) + 1) + 1) + 1) + 1)), (mtx (((((((((((k0 + cnts (x1.take i)) + 1) + 1) + 1) + 1) + 1) + 1) + 1) + 1) + 1) + 1)), ((((((((((((((k0 + cnts (x1.take i)) + 1) + 1) + 1) + 1) + 1) + 1) + 1) + 1) + 1) + 1) + 1) : Nat) : Int), b58), b6, b7, b8) : T_Inst)).set i ((((((k0 + cnts (x1.take i)) : Nat) : Int), ((((k0 + cnts (x1.take i)) + 1) : Nat) : Int)), (((((k0 + cnts (x1.take i)) + 1) + 1) : Nat) : Int), ((((((k0 + cnts (x1.take i)) + 1) + 1) + 1) : Nat) : Int), (((((((k0 + cnts (x1.take i)) + 1) + 1) + 1) + 1) : Nat) : Int), (((((((((k0 + cnts (x1.take i)) + 1) + 1) + 1) + 1) + 1) : Nat) : Int), (((((((((k0 + cnts (x1.take i)) + 1) + 1) + 1) + 1) + 1) + 1) : Nat) : Int), ((((((((((k0 + cnts (x1.take i)) + 1) + 1) + 1) + 1) + 1) + 1) + 1) : Nat) : Int), (mtx (((((((((k0 + cnts (x1.take i)) + 1) + 1) + 1) + 1) + 1) + 1) + 1) + 1)), (mtx ((((((((((k0 + cnts (x1.take i)) + 1) + 1) + 1) + 1) + 1) + 1) + 1) + 1) + 1)), (mtx (((((((((((k0 + cnts (x1.take i)) + 1) + 1) + 1) + 1) + 1) + 1) + 1) + 1) + 1) + 1)), ((((((((((((((k0 + cnts (x1.take i)) + 1) + 1) + 1) + 1) + 1) + 1) + 1) + 1) + 1) + 1) + 1) : Nat) : Int), (Mk.mkd (((((((((((((k0 + cnts (x1.take i)) + 1) + 1) + 1) + 1) + 1) + 1) + 1) + 1) + 1) + 1) + 1) + 1) b58)), b6, b7, b8) : T_Inst)).set i ((((((k0 + cnts (x1.take i)) : Nat) : Int), ((((k0 + cnts (x1.take i)) + 1) : Nat) : Int)), (((((k0 + cnts (x1.take i)) + 1) + 1) : Nat) : Int), ((((((k0 + cnts (x1.take i)) + 1) + 1) + 1) : Nat) : Int), (((((((k0 + cnts (x1.take i)) + 1) + 1) + 1) + 1) : Nat) : Int), (((((((((k0 + cnts (x1.take i)) + 1) + 1) + 1) + 1) + 1) : Nat) : Int), (((((((((k0 + cnts (x1.take i)) + 1) + 1) + 1) + 1) + 1) + 1) : Nat) : Int), ((((((((((k0 + cnts (x1.take i)) + 1) + 1) + 1) + 1) + 1) + 1) + 1) : Nat) : Int), (mtx (((((((((k0 + cnts (x1.take i)) + 1) + 1) + 1) + 1) + 1) + 1) + 1) + 1)), (mtx ((((((((((k0 + cnts (x1.take i)) + 1) + 1) + 1) + 1) + 1) + 1) + 1) + 1) + 1)), (mtx (((((((((((k0 + cnts (x1.take i)) + 1) + 1) + 1) + 1) + 1) + 1) + 1) + 1) + 1) + 1)), ((((((((((((((k0 + cnts (x1.take i)) + 1) + 1) + 1) + 1) + 1) + 1) + 1) + 1) + 1) + 1) + 1) : Nat) : Int), (Mk.mkd (((((((((((((k0 + cnts (x1.take i)) + 1) + 1) + 1) + 1) + 1) + 1) + 1) + 1) + 1) + 1) + 1) + 1) b58)), ((((((((((((((((k0 + cnts (x1.take i)) + 1) + 1) + 1) + 1) + 1) + 1) + 1) + 1) + 1) + 1) + 1) + 1) + Mk.cnt b58) : Nat) : Int), b7, b8) : T_Inst)) : List T_Inst)[i]? = some ((((((k0 + cnts (x1.take i)) : Nat) : Int), ((((k0 + cnts (x1.take i)) + 1) : Nat) : Int)), (((((k0 + cnts (x1.take i)) + 1) + 1) : Nat) : Int), ((((((k0 + cnts (x1.take i)) + 1) + 1) + 1) : Nat) : Int), (((((((k0 + cnts (x1.take i)) + 1) + 1) + 1) + 1) : Nat) : Int), (((((((((k0 + cnts (x1.take i)) + 1) + 1) + 1) + 1) + 1) : Nat) : Int), (((((((((k0 + cnts (x1.take i)) + 1) + 1) + 1) + 1) + 1) + 1) : Nat) : Int), ((((((((((k0 + cnts (x1.take i)) + 1) + 1) + 1) + 1) + 1) + 1) + 1) : Nat) : Int), (mtx (((((((((k0 + cnts (x1.take i)) + 1) + 1) + 1) + 1) + 1) + 1) + 1) + 1)), (mtx ((((((((((k0 + cnts (x1.take i)) + 1) + 1) + 1) + 1) + 1) + 1) + 1) + 1) + 1)), (mtx (((((((((((k0 + cnts (x1.take i)) + 1) + 1) + 1) + 1) + 1) + 1) + 1) + 1) + 1) + 1)), ((((((((((((((k0 + cnts (x1.take i)) + 1) + 1) + 1) + 1) + 1) + 1) + 1) + 1) + 1) + 1) + 1) : Nat) : Int), (Mk.mkd (((((((((((((k0 + cnts (x1.take i)) + 1) + 1) + 1) + 1) + 1) + 1) + 1) + 1) + 1) + 1) + 1) + 1) b58)), ((((((((((((((((k0 + cnts (x1.take i)) + 1) + 1) + 1) + 1) + 1) + 1) + 1) + 1) + 1) + 1) + 1) + 1) + Mk.cnt b58) : Nat) : Int), b7, b8) : T_Inst) from set_get (set_get (set_get (set_get (set_get (set_get (set_get (set_get (set_get (set_get (set_get (set_get (set_get (set_get (half_get (k := k0) hu))))))))))))))) (by simp only [cells_pair, cells_mkTL]) h) ?_
      refine L_assign rfl rfl ?_
      refine L_nil ?_
      refine W_seq ?_
      refine W_region ?_
      refine L_move rfl rfl ?_
      refine L_move rfl rfl ?_
      refine L_move rfl rfl ?_
      refine L_binV rfl rfl rfl (bv_rem (by omega)) ?_
      refine L_binV rfl rfl rfl bv_eql ?_
      refine L_indexAddr rfl rfl rfl el114 rfl (by omega) ?_
      refine L_fieldAddr rfl rfl fld267_7 ?_
      refine L_storeElF (fo := 15) (x' := ((((((k0 + cnts (x1.take i)) : Nat) : Int), ((((k0 + cnts (x1.take i)) + 1) : Nat) : Int)), (((((k0 + cnts (x1.take i)) + 1) + 1) : Nat) : Int), ((((((k0 + cnts (x1.take i)) + 1) + 1) + 1) : Nat) : Int), (((((((k0 + cnts (x1.take i)) + 1) + 1) + 1) + 1) : Nat) : Int), (((((((((k0 + cnts (x1.take i)) + 1) + 1) + 1) + 1) + 1) : Nat) : Int), (((((((((k0 + cnts (x1.take i)) + 1) + 1) + 1) + 1) + 1) + 1) : Nat) : Int), ((((((((((k0 + cnts (x1.take i)) + 1) + 1) + 1) + 1) + 1) + 1) + 1) : Nat) : Int), (mtx (((((((((k0 + cnts (x1.take i)) + 1) + 1) + 1) + 1) + 1) + 1) + 1) + 1)), (mtx ((((((((((k0 + cnts (x1.take i)) + 1) + 1) + 1) + 1) + 1) + 1) + 1) + 1) + 1)), (mtx (((((((((((k0 + cnts (x1.take i)) + 1) + 1) + 1) + 1) + 1) + 1) + 1) + 1) + 1) + 1)), ((((((((((((((k0 + cnts (x1.take i)) + 1) + 1) + 1) + 1) + 1) + 1) + 1) + 1) + 1) + 1) + 1) : Nat) : Int), (Mk.mkd (((((((((((((k0 + cnts (x1.take i)) + 1) + 1) + 1) + 1) + 1) + 1) + 1) + 1) + 1) + 1) + 1) + 1) b58)), ((((((((((((((((k0 + cnts (x1.take i)) + 1) + 1) + 1) + 1) + 1) + 1) + 1) + 1) + 1) + 1) + 1) + 1) + Mk.cnt b58) : Nat) : Int), (Mk.mkd (((((((((((((((k0 + cnts (x1.take i)) + 1) + 1) + 1) + 1) + 1) + 1) + 1) + 1) + 1) + 1) + 1) + 1) + Mk.cnt b58) + 1) b7), (decide (((((((((((((((((((k0 + cnts (x1.take i)) + 1) + 1) + 1) + 1) + 1) + 1) + 1) + 1) + 1) + 1) + 1) + 1) + Mk.cnt b58) + 1) + Mk.cnt b7) : Nat) : Int).tmod 3 = 0))) : T_Inst)) rfl rfl (by repeat (first | exact Pick.here _ | apply Pick.there)) rfl (show (((((((((((((((((half k0 i x1).set i ((((((k0 + cnts (x1.take i)) : Nat) : Int), b12), b2, b3, b4, (b51, b52, b53, b54, b55, b56, b57, b58), b6, b7, b8) : T_Inst)).set i ((((((k0 + cnts (x1.take i)) : Nat) : Int), ((((k0 + cnts (x1.take i)) + 1) : Nat) : Int)), b2, b3, b4, (b51, b52, b53, b54, b55, b56, b57, b58), b6, b7, b8) : T_Inst)).set i ((((((k0 + cnts (x1.take i)) : Nat) : Int), ((((k0 + cnts (x1.take i)) + 1) : Nat) : Int)), (((((k0 + cnts (x1.take i)) + 1) + 1) : Nat) : Int), b3, b4, (b51, b52, b53, b54, b55, b56, b57, b58), b6, b7, b8) : T_Inst)).set i ((((((k0 + cnts (x1.take i)) : Nat) : Int), ((((k0 + cnts (x1.take i)) + 1) : Nat) : Int)), (((((k0 + cnts (x1.take i)) + 1) + 1) : Nat) : Int), ((((((k0 + cnts (x1.take i)) + 1) + 1) + 1) : Nat) : Int), b4, (b51, b52, b53, b54, b55, b56, b57, b58), b6, b7, b8) : T_Inst)).set i ((((((k0 + cnts (x1.take i)) : Nat) : Int), ((((k0 + cnts (x1.take i)) + 1) : Nat) : Int)), (((((k0 + cnts (x1.take i)) + 1) + 1) : Nat) : Int), ((((((k0 + cnts (x1.take i)) + 1) + 1) + 1) : Nat) : Int), (((((((k0 + cnts (x1.take i)) + 1) + 1) + 1) + 1) : Nat) : Int), (b51, b52, b53, b54, b55, b56, b57, b58), b6, b7, b8) : T_Inst)).set i ((((((k0 + cnts (x1.take i)) : Nat) : Int), ((((k0 + cnts (x1.take i)) + 1) : Nat) : Int)), (((((k0 + cnts (x1.take i)) + 1) + 1) : Nat) : Int), ((((((k0 + cnts (x1.take i)) + 1) + 1) + 1) : Nat) : Int), (((((((k0 + cnts (x1.take i)) + 1) + 1) + 1) + 1) : Nat) : Int), (((((((((k0 + cnts (x1.take i)) + 1) + 1) + 1) + 1) + 1) : Nat) : Int), b52, b53, b54, b55, b56, b57, b58), b6, b7, b8) : T_Inst)).set i ((((((k0 + cnts (x1.take i)) : Nat) : Int), ((((k0 + cnts (x1.take i)) + 1) : Nat) : Int)), (((((k0 + cnts (x1.take i)) + 1) + 1) : Nat) : Int), ((((((k0 + cnts (x1.take i)) + 1) + 1) + 1) : Nat) : Int), (((((((k0 + cnts (x1.take i)) + 1) + 1) + 1) + 1) : Nat) : Int), (((((((((k0 + cnts (x1.take i)) + 1) + 1) + 1) + 1) + 1) : Nat) : Int), (((((((((k0 + cnts (x1.take i)) + 1) + 1) + 1) + 1) + 1) + 1) : Nat) : Int), b53, b54, b55, b56, b57, b58), b6, b7, b8) : T_Inst)).set i ((((((k0 + cnts (x1.take i)) : Nat) : Int), ((((k0 + cnts (x1.take i)) + 1) : Nat) : Int)), (((((k0 + cnts (x1.take i)) + 1) + 1) : Nat) : Int), ((((((k0 + cnts (x1.take i)) + 1) + 1) + 1) : Nat) : Int), (((((((k0 + cnts (x1.take i)) + 1) + 1) + 1) + 1) : Nat) : Int), (((((((((k0 + cnts (x1.take i)) + 1) + 1) + 1) + 1) + 1) : Nat) : Int), (((((((((k0 + cnts (x1.take i)) + 1) + 1) + 1) + 1) + 1) + 1) : Nat) : Int), ((((((((((k0 + cnts (x1.take i)) + 1) + 1) + 1) + 1) + 1) + 1) + 1) : Nat) : Int), b54, b55, b56, b57, b58), b6, b7, b8) : T_Inst)).set i ((((((k0 + cnts (x1.take i)) : Nat) : Int), ((((k0 + cnts (x1.take i)) + 1) : Nat) : Int)), (((((k0 + cnts (x1.take i)) + 1) + 1) : Nat) : Int), ((((((k0 + cnts (x1.take i)) + 1) + 1) + 1) : Nat) : Int), (((((((k0 + cnts (x1.take i)) + 1) + 1) + 1) + 1) : Nat) : Int), (((((((((k0 + cnts (x1.take i)) + 1) + 1) + 1) + 1) + 1) : Nat) : Int), (((((((((k0 + cnts (x1.take i)) + 1) + 1) + 1) + 1) + 1) + 1) : Nat) : Int), ((((((((((k0 + cnts (x1.take i)) + 1) + 1) + 1) + 1) + 1) + 1) + 1) : Nat) : Int), (mtx (((((((((k0 + cnts (x1.take i)) + 1) + 1) + 1) + 1) + 1) + 1) + 1) + 1)), b55, b56, b57, b58), b6, b7, b8) : T_Inst)).set i ((((((k0 + cnts (x1.take i)) : Nat) : Int), ((((k0 + cnts (x1.take i)) + 1) : Nat) : Int)), (((((k0 + cnts (x1.take i)) + 1) + 1) : Nat) : Int), ((((((k0 + cnts (x1.take i)) + 1) + 1) + 1) : Nat) : Int), (((((((k0 + cnts (x1.take i)) + 1) + 1) + 1) + 1) : Nat) : Int), (((((((((k0 + cnts (x1.take i)) + 1) + 1) + 1) + 1) + 1) : Nat) : Int), (((((((((k0 + cnts (x1.take i)) + 1) + 1) + 1) + 1) + 1) + 1) : Nat) : Int), ((((((((((k0 + cnts (x1.take i)) + 1) + 1) + 1) + 1) + 1) + 1) + 1) : Nat) : Int), (mtx (((((((((k0 + cnts (x1.take i)) + 1) + 1) + 1) + 1) + 1) + 1) + 1) + 1)), (mtx ((((((((((k0 + cnts (x1.take i)) + 1) + 1) + 1) + 1) + 1) + 1) + 1) + 1) + 1)), b56, b57, b58), b6, b7, b8) : T_Inst)).set i ((((((k0 + cnts (x1.take i)) : Nat) : Int), ((((k0 + cnts (x1.take i)) + 1) : Nat) : Int)), (((((k0 + cnts (x1.take i)) + 1) + 1) : Nat) : Int), ((((((k0 + cnts (x1.take i)) + 1) + 1) + 1) : Nat) : Int), (((((((k0 + cnts (x1.take i)) + 1) + 1) + 1) + 1) : Nat) : Int), (((((((((k0 + cnts (x1.take i)) + 1) + 1) + 1) + 1) + 1) : Nat) : Int), (((((((((k0 + cnts (x1.take i)) + 1) + 1) + 1) + 1) + 1) + 1) : Nat) : Int), ((((((((((k0 + cnts (x1.take i)) + 1) + 1) + 1) + 1) + 1) + 1) + 1) : Nat) : Int), (mtx (((((((((k0 + cnts (x1.take i)) + 1) + 1) + 1) + 1) + 1) + 1) + 1) + 1)), (mtx ((((((((((k0 + cnts (x1.take i)) + 1) + 1) + 1) + 1) + 1) + 1) + 1) + 1) + 1)), (mtx (((((((((((k0 + cnts (x1.take i)) + 1) + 1) + 1) + 1) + 1) + 1) + 1) + 1) + 1) + 1)), b57, b58), b6, b7, b8) : T_Inst)).set i ((((((k0 + cnts (x1.take i)) : Nat) : Int), ((((k0 + cnts (x1.take i)) + 1) : Nat) : Int)), (((((k0 + cnts (x1.take i)) + 1) + 1) : Nat) : Int), ((((((k0 + cnts (x1.take i)) + 1) + 1) + 1) : Nat) : Int), (((((((k0 + cnts (x1.take i)) + 1) + 1) + 1) + 1) : Nat) : Int), (((((((((k0 + cnts (x1.take i)) + 1) + 1) + 1) + 1) + 1) : Nat) : Int), (((((((((k0 + cnts (x1.take i)) + 1) + 1) + 1) + 1) + 1) + 1) : Nat) : Int), ((((((((((k0 + cnts (x1.take i)) + 1) + 1) + 1) + 1) + 1) + 1) + 1) : Nat) : Int), (mtx (((((((((k0 + cnts (x1.take i)) + 1) + 1) + 1) + 1) + 1) + 1) + 1) + 1)), (mtx ((((((((((k0 + cnts (x1.take i)) + 1) + 1) + 1) + 1) + 1) + 1) + 1) + 1) + 1)), (mtx (((((((((((k0 + cnts (x1.take i)) + 1) + 1) + 1) + 1) + 1) + 1) + 1) + 1) + 1) + 1)), ((((((((((((((k0 + cnts (x1.take i)) + 1) + 1) + 1) + 1) + 1) + 1) + 1) + 1) + 1) + 1) + 1) : Nat) : Int), b58), b6, b7, b8) : T_Inst)).set i ((((((k0 + cnts (x1.take i)) : Nat) : Int), ((((k0 + cnts (x1.take i)) + 1) : Nat) : Int)), (((((k0 + cnts (x1.take i)) + 1) + 1) : Nat) : Int), ((((((k0 + cnts (x1.take i)) + 1) + 1) + 1) : Nat) : Int), (((((((k0 + cnts (x1.take i)) + 1) + 1) + 1) + 1) : Nat) : Int), (((((((((k0 + cnts (x1.take i)) + 1) + 1) + 1) + 1) + 1) : Nat) : Int), (((((((((k0 + cnts (x1.take i)) + 1) + 1) + 1) + 1) + 1) + 1) : Nat) : Int), ((((((((((k0 + cnts (x1.take i)) + 1) + 1) + 1) + 1) + 1) + 1) + 1) : Nat) : Int), (mtx (((((((((k0 + cnts (x1.take i)) + 1) + 1) + 1) + 1) + 1) + 1) + 1) + 1)), (mtx ((((((((((k0 + cnts (x1.take i)) + 1) + 1) + 1) + 1) + 1) + 1) + 1) + 1) + 1)), (mtx (((((((((((k0 + cnts (x1.take i)) + 1) + 1) + 1) + 1) + 1) + 1) + 1) + 1) + 1) + 1)), ((((((((((((((k0 + cnts (x1.take i)) + 1) + 1) + 1) + 1) + 1) + 1) + 1) + 1) + 1) + 1) + 1) : Nat) : Int), (Mk.mkd (((((((((((((k0 + cnts (x1.take i)) + 1) + 1) + 1) + 1) + 1) + 1) + 1) + 1) + 1) + 1) + 1) + 1) b58)), b6, b7, b8) : T_Inst)).set i ((((((k0 + cnts (x1.take i)) : Nat) : Int), ((((k0 + cnts (x1.take i)) + 1) : Nat) : Int)), (((((k0 + cnts (x1.take i)) + 1) + 1) : Nat) : Int), ((((((k0 + cnts (x1.take i)) + 1) + 1) + 1) : Nat) : Int), (((((((k0 + cnts (x1.take i)) + 1) + 1) + 1) + 1) : Nat) : Int), (((((((((k0 + cnts (x1.take i)) + 1) + 1) + 1) + 1) + 1) : Nat) : Int), (((((((((k0 + cnts (x1.take i)) + 1) + 1) + 1) + 1) + 1) + 1) : Nat) : Int), ((((((((((k0 + cnts (x1.take i)) + 1) + 1) + 1) + 1) + 1) + 1) + 1) : Nat) : Int), (mtx (((((((((k0 + cnts (x1.take i)) + 1) + 1) + 1) + 1) + 1) + 1) + 1) + 1)), (mtx ((((((((((k0 + cnts (x1.take i)) + 1) + 1) + 1) + 1) + 1) + 1) + 1) + 1) + 1)), (mtx (((((((((((k0 + cnts (x1.take i)) + 1) + 1) + 1) + 1) + 1) + 1) + 1) + 1) + 1) + 1)), ((((((((((((((k0 + cnts (x1.take i)) + 1) + 1) + 1) + 1) + 1) + 1) + 1) + 1) + 1) + 1) + 1) : Nat) : Int), (Mk.mkd (((((((((((((k0 + cnts (x1.take i)) + 1) + 1) + 1) + 1) + 1) + 1) + 1) + 1) + 1) + 1) + 1) + 1) b58)), ((((((((((((((((k0 + cnts (x1.take i)) + 1) + 1) + 1) + 1) + 1) + 1) + 1) + 1) + 1) + 1) + 1) + 1) + Mk.cnt b58) : Nat) : Int), b7, b8) : T_Inst)).set i ((((((k0 + cnts (x1.take i)) : Nat) : Int), ((((k0 + cnts (x1.take i)) + 1) : Nat) : Int)), (((((k0 + cnts (x1.take i)) + 1) + 1) : Nat) : Int), ((((((k0 + cnts (x1.take i)) + 1) + 1) + 1) : Nat) : Int), (((((((k0 + cnts (x1.take i)) + 1) + 1) + 1) + 1) : Nat) : Int), (((((((((k0 + cnts (x1.take i)) + 1) + 1) + 1) + 1) + 1) : Nat) : Int), (((((((((k0 + cnts (x1.take i)) + 1) + 1) + 1) + 1) + 1) + 1) : Nat) : Int), ((((((((((k0 + cnts (x1.take i)) + 1) + 1) + 1) + 1) + 1) + 1) + 1) : Nat) : Int), (mtx (((((((((k0 + cnts (x1.take i)) + 1) + 1) + 1) + 1) + 1) + 1) + 1) + 1)), (mtx ((((((((((k0 + cnts (x1.take i)) + 1) + 1) + 1) + 1) + 1) + 1) + 1) + 1) + 1)), (mtx (((((((((((k0 + cnts (x1.take i)) + 1) + 1) + 1) + 1) + 1) + 1) + 1) + 1) + 1) + 1)), ((((((((((((((k0 + cnts (x1.take i)) + 1) + 1) + 1) + 1) + 1) + 1) + 1) + 1) + 1) + 1) + 1) : Nat) : Int), (Mk.mkd (((((((((((((k0 + cnts (x1.take i)) + 1) + 1) + 1) + 1) + 1) + 1) + 1) + 1) + 1) + 1) + 1) + 1) b58)), ((((((((((((((((k0 + cnts (x1.take i)) + 1) + 1) + 1) + 1) + 1) + 1) + 1) + 1) + 1) + 1) + 1) + 1) + Mk.cnt b58) : Nat) : Int), (Mk.mkd (((((((((((((((k0 + cnts (x1.take i)) + 1) + 1) + 1) + 1) + 1) + 1) + 1) + 1) + 1) + 1) + 1) + 1) + Mk.cnt b58) + 1) b7), b8) : T_Inst)) : List T_Inst)[i]? = some ((((((k0 + cnts (x1.take i)) : Nat) : Int), ((((k0 + cnts (x1.take i)) + 1) : Nat) : Int)), (((((k0 + cnts (x1.take i)) + 1) + 1) : Nat) : Int), ((((((k0 + cnts (x1.take i)) + 1) + 1) + 1) : Nat) : Int), (((((((k0 + cnts (x1.take i)) + 1) + 1) + 1) + 1) : Nat) : Int), (((((((((k0 + cnts (x1.take i)) + 1) + 1) + 1) + 1) + 1) : Nat) : Int), (((((((((k0 + cnts (x1.take i)) + 1) + 1) + 1) + 1) + 1) + 1) : Nat) : Int), ((((((((((k0 + cnts (x1.take i)) + 1) + 1) + 1) + 1) + 1) + 1) + 1) : Nat) : Int), (mtx (((((((((k0 + cnts (x1.take i)) + 1) + 1) + 1) + 1) + 1) + 1) + 1) + 1)), (mtx ((((((((((k0 + cnts (x1.take i)) + 1) + 1) + 1) + 1) + 1) + 1) + 1) + 1) + 1)), (mtx (((((((((((k0 + cnts (x1.take i)) + 1) + 1) + 1) + 1) + 1) + 1) + 1) + 1) + 1) + 1)), ((((((((((((((k0 + cnts (x1.take i)) + 1) + 1) + 1) + 1) + 1) + 1) + 1) + 1) + 1) + 1) + 1) : Nat) : Int), (Mk.mkd (((((((((((((k0 + cnts (x1.take i)) + 1) + 1) + 1) + 1) + 1) + 1) + 1) + 1) + 1) + 1) + 1) + 1) b58)), ((((((((((((((((k0 + cnts (x1.take i)) + 1) + 1) + 1) + 1) + 1) + 1) + 1) + 1) + 1) + 1) + 1) + 1) + Mk.cnt b58) : Nat) : Int), (Mk.mkd (((((((((((((((k0 + cnts (x1.take i)) + 1) + 1) + 1) + 1) + 1) + 1) + 1) + 1) + 1) + 1) + 1) + 1) + Mk.cnt b58) + 1) b7), b8) : T_Inst) from set_get (set_get (set_get (set_get (set_get (set_get (set_get (set_get (set_get (set_get (set_get (set_get (set_get (set_get (set_get (half_get (k := k0) hu)))))))))))))))) rfl rfl (by decide) rfl (fun w h => by exact ⟨⟨h.1.1, h.1.2⟩, h.2.1, h.2.2.1, h.2.2.2.1, ⟨h.2.2.2.2.1.1, h.2.2.2.2.1.2.1, h.2.2.2.2.1.2.2.1, h.2.2.2.2.1.2.2.2.1, h.2.2.2.2.1.2.2.2.2.1, h.2.2.2.2.1.2.2.2.2.2.1, h.2.2.2.2.1.2.2.2.2.2.2.1, h.2.2.2.2.1.2.2.2.2.2.2.2⟩, h.2.2.2.2.2.1, h.2.2.2.2.2.2.1, (by exact trivial)⟩) one4 ?_
      refine L_nil ?_
      refine W_region ?_
      refine L_move rfl rfl ?_
      refine L_binV rfl rfl rfl (bv_addR (by unfold inR; omega)) ?_
      refine L_assign rfl rfl ?_
      refine L_nil ?_
      rw [show ((((((((((((((((((k0 + cnts (x1.take i)) + 1) + 1) + 1) + 1) + 1) + 1) + 1) + 1) + 1) + 1) + 1) + 1) + Mk.cnt b58) + 1) + Mk.cnt b7) : Nat) : Int) + 1 = ((((((((((((((((((k0 + cnts (x1.take i)) + 1) + 1) + 1) + 1) + 1) + 1) + 1) + 1) + 1) + 1) + 1) + 1) + Mk.cnt b58) + 1) + Mk.cnt b7) + 1 : Nat) : Int) from rfl]
      have hfin : (((((((((((((((((half k0 i x1).set i ((((((k0 + cnts (x1.take i)) : Nat) : Int), b12), b2, b3, b4, (b51, b52, b53, b54, b55, b56, b57, b58), b6, b7, b8) : T_Inst)).set i ((((((k0 + cnts (x1.take i)) : Nat) : Int), ((((k0 + cnts (x1.take i)) + 1) : Nat) : Int)), b2, b3, b4, (b51, b52, b53, b54, b55, b56, b57, b58), b6, b7, b8) : T_Inst)).set i ((((((k0 + cnts (x1.take i)) : Nat) : Int), ((((k0 + cnts (x1.take i)) + 1) : Nat) : Int)), (((((k0 + cnts (x1.take i)) + 1) + 1) : Nat) : Int), b3, b4, (b51, b52, b53, b54, b55, b56, b57, b58), b6, b7, b8) : T_Inst)).set i ((((((k0 + cnts (x1.take i)) : Nat) : Int), ((((k0 + cnts (x1.take i)) + 1) : Nat) : Int)), (((((k0 + cnts (x1.take i)) + 1) + 1) : Nat) : Int), ((((((k0 + cnts (x1.take i)) + 1) + 1) + 1) : Nat) : Int), b4, (b51, b52, b53, b54, b55, b56, b57, b58), b6, b7, b8) : T_Inst)).set i ((((((k0 + cnts (x1.take i)) : Nat) : Int), ((((k0 + cnts (x1.take i)) + 1) : Nat) : Int)), (((((k0 + cnts (x1.take i)) + 1) + 1) : Nat) : Int), ((((((k0 + cnts (x1.take i)) + 1) + 1) + 1) : Nat) : Int), (((((((k0 + cnts (x1.take i)) + 1) + 1) + 1) + 1) : Nat) : Int), (b51, b52, b53, b54, b55, b56, b57, b58), b6, b7, b8) : T_Inst)).set i ((((((k0 + cnts (x1.take i)) : Nat) : Int), ((((k0 + cnts (x1.take i)) + 1) : Nat) : Int)), (((((k0 + cnts (x1.take i)) + 1) + 1) : Nat) : Int), ((((((k0 + cnts (x1.take i)) + 1) + 1) + 1) : Nat) : Int), (((((((k0 + cnts (x1.take i)) + 1) + 1) + 1) + 1) : Nat) : Int), (((((((((k0 + cnts (x1.take i)) + 1) + 1) + 1) + 1) + 1) : Nat) : Int), b52, b53, b54, b55, b56, b57, b58), b6, b7, b8) : T_Inst)).set i ((((((k0 + cnts (x1.take i)) : Nat) : Int), ((((k0 + cnts (x1.take i)) + 1) : Nat) : Int)), (((((k0 + cnts (x1.take i)) + 1) + 1) : Nat) : Int), ((((((k0 + cnts (x1.take i)) + 1) + 1) + 1) : Nat) : Int), (((((((k0 + cnts (x1.take i)) + 1) + 1) + 1) + 1) : Nat) : Int), (((((((((k0 + cnts (x1.take i)) + 1) + 1) + 1) + 1) + 1) : Nat) : Int), (((((((((k0 + cnts (x1.take i)) + 1) + 1) + 1) + 1) + 1) + 1) : Nat) : Int), b53, b54, b55, b56, b57, b58), b6, b7, b8) : T_Inst)).set i ((((((k0 + cnts (x1.take i)) : Nat) : Int), ((((k0 + cnts (x1.take i)) + 1) : Nat) : Int)), (((((k0 + cnts (x1.take i)) + 1) + 1) : Nat) : Int), ((((((k0 + cnts (x1.take i)) + 1) + 1) + 1) : Nat) : Int), (((((((k0 + cnts (x1.take i)) + 1) + 1) + 1) + 1) : Nat) : Int), (((((((((k0 + cnts (x1.take i)) + 1) + 1) + 1) + 1) + 1) : Nat) : Int), (((((((((k0 + cnts (x1.take i)) + 1) + 1) + 1) + 1) + 1) + 1) : Nat) : Int), ((((((((((k0 + cnts (x1.take i)) + 1) + 1) + 1) + 1) + 1) + 1) + 1) : Nat) : Int), b54, b55, b56, b57, b58), b6, b7, b8) : T_Inst)).set i ((((((k0 + cnts (x1.take i)) : Nat) : Int), ((((k0 + cnts (x1.take i)) + 1) : Nat) : Int)), (((((k0 + cnts (x1.take i)) + 1) + 1) : Nat) : Int), ((((((k0 + cnts (x1.take i)) + 1) + 1) + 1) : Nat) : Int), (((((((k0 + cnts (x1.take i)) + 1) + 1) + 1) + 1) : Nat) : Int), (((((((((k0 + cnts (x1.take i)) + 1) + 1) + 1) + 1) + 1) : Nat) : Int), (((((((((k0 + cnts (x1.take i)) + 1) + 1) + 1) + 1) + 1) + 1) : Nat) : Int), ((((((((((k0 + cnts (x1.take i)) + 1) + 1) + 1) + 1) + 1) + 1) + 1) : Nat) : Int), (mtx (((((((((k0 + cnts (x1.take i)) + 1) + 1) + 1) + 1) + 1) + 1) + 1) + 1)), b55, b56, b57, b58), b6, b7, b8) : T_Inst)).set i ((((((k0 + cnts (x1.take i)) : Nat) : Int), ((((k0 + cnts (x1.take i)) + 1) : Nat) : Int)), (((((k0 + cnts (x1.take i)) + 1) + 1) : Nat) : Int), ((((((k0 + cnts (x1.take i)) + 1) + 1) + 1) : Nat) : Int), (((((((k0 + cnts (x1.take i)) + 1) + 1) + 1) + 1) : Nat) : Int), (((((((((k0 + cnts (x1.take i)) + 1) + 1) + 1) + 1) + 1) : Nat) : Int), (((((((((k0 + cnts (x1.take i)) + 1) + 1) + 1) + 1) + 1) + 1) : Nat) : Int), ((((((((((k0 + cnts (x1.take i)) + 1) + 1) + 1) + 1) + 1) + 1) + 1) : Nat) : Int), (mtx (((((((((k0 + cnts (x1.take i)) + 1) + 1) + 1) + 1) + 1) + 1) + 1) + 1)), (mtx ((((((((((k0 + cnts (x1.take i)) + 1) + 1) + 1) + 1) + 1) + 1) + 1) + 1) + 1)), b56, b57, b58), b6, b7, b8) : T_Inst)).set i ((((((k0 + cnts (x1.take i)) : Nat) : Int), ((((k0 + cnts (x1.take i)) + 1) : Nat) : Int)), (((((k0 + cnts (x1.take i)) + 1) + 1) : Nat) : Int), ((((((k0 + cnts (x1.take i)) + 1) + 1) + 1) : Nat) : Int), (((((((k0 + cnts (x1.take i)) + 1) + 1) + 1) + 1) : Nat) : Int), (((((((((k0 + cnts (x1.take i)) + 1) + 1) + 1) + 1) + 1) : Nat) : Int), (((((((((k0 + cnts (x1.take i)) + 1) + 1) + 1) + 1) + 1) + 1) : Nat) : Int), ((((((((((k0 + cnts (x1.take i)) + 1) + 1) + 1) + 1) + 1) + 1) + 1) : Nat) : Int), (mtx (((((((((k0 + cnts (x1.take i)) + 1) + 1) + 1) + 1) + 1) + 1) + 1) + 1)), (mtx ((((((((((k0 + cnts (x1.take i)) + 1) + 1) + 1) + 1) + 1) + 1) + 1) + 1) + 1)), (mtx (((((((((((k0 + cnts (x1.take i)) + 1) + 1) + 1) + 1) + 1) + 1) + 1) + 1) + 1) + 1)), b57, b58), b6, b7, b8) : T_Inst)).set i ((((((k0 + cnts (x1.take i)) : Nat) : Int), ((((k0 + cnts (x1.take i)) + 1) : Nat) : Int)), (((((k0 + cnts (x1.take i)) + 1) + 1) : Nat) : Int), ((((((k0 + cnts (x1.take i)) + 1) + 1) + 1) : Nat) : Int), (((((((k0 + cnts (x1.take i)) + 1) + 1) + 1) + 1) : Nat) : Int), (((((((((k0 + cnts (x1.take i)) + 1) + 1) + 1) + 1) + 1) : Nat) : Int), (((((((((k0 + cnts (x1.take i)) + 1) + 1) + 1) + 1) + 1) + 1) : Nat) : Int), ((((((((((k0 + cnts (x1.take i)) + 1) + 1) + 1) + 1) + 1) + 1) + 1) : Nat) : Int), (mtx (((((((((k0 + cnts (x1.take i)) + 1) + 1) + 1) + 1) + 1) + 1) + 1) + 1)), (mtx ((((((((((k0 + cnts (x1.take i)) + 1) + 1) + 1) + 1) + 1) + 1) + 1) + 1) + 1)), (mtx (((((((((((k0 + cnts (x1.take i)) + 1) + 1) + 1) + 1) + 1) + 1) + 1) + 1) + 1) + 1)), ((((((((((((((k0 + cnts (x1.take i)) + 1) + 1) + 1) + 1) + 1) + 1) + 1) + 1) + 1) + 1) + 1) : Nat) : Int), b58), b6, b7, b8) : T_Inst)).set i ((((((k0 + cnts (x1.take i)) : Nat) : Int), ((((k0 + cnts (x1.take i)) + 1) : Nat) : Int)), (((((k0 + cnts (x1.take i)) + 1) + 1) : Nat) : Int), ((((((k0 + cnts (x1.take i)) + 1) + 1) + 1) : Nat) : Int), (((((((k0 + cnts (x1.take i)) + 1) + 1) + 1) + 1) : Nat) : Int), (((((((((k0 + cnts (x1.take i)) + 1) + 1) + 1) + 1) + 1) : Nat) : Int), (((((((((k0 + cnts (x1.take i)) + 1) + 1) + 1) + 1) + 1) + 1) : Nat) : Int), ((((((((((k0 + cnts (x1.take i)) + 1) + 1) + 1) + 1) + 1) + 1) + 1) : Nat) : Int), (mtx (((((((((k0 + cnts (x1.take i)) + 1) + 1) + 1) + 1) + 1) + 1) + 1) + 1)), (mtx ((((((((((k0 + cnts (x1.take i)) + 1) + 1) + 1) + 1) + 1) + 1) + 1) + 1) + 1)), (mtx (((((((((((k0 + cnts (x1.take i)) + 1) + 1) + 1) + 1) + 1) + 1) + 1) + 1) + 1) + 1)), ((((((((((((((k0 + cnts (x1.take i)) + 1) + 1) + 1) + 1) + 1) + 1) + 1) + 1) + 1) + 1) + 1) : Nat) : Int), (Mk.mkd (((((((((((((k0 + cnts (x1.take i)) + 1) + 1) + 1) + 1) + 1) + 1) + 1) + 1) + 1) + 1) + 1) + 1) b58)), b6, b7, b8) : T_Inst)).set i ((((((k0 + cnts (x1.take i)) : Nat) : Int), ((((k0 + cnts (x1.take i)) + 1) : Nat) : Int)), (((((k0 + cnts (x1.take i)) + 1) + 1) : Nat) : Int), ((((((k0 + cnts (x1.take i)) + 1) + 1) + 1) : Nat) : Int), (((((((k0 + cnts (x1.take i)) + 1) + 1) + 1) + 1) : Nat) : Int), (((((((((k0 + cnts (x1.take i)) + 1) + 1) + 1) + 1) + 1) : Nat) : Int), (((((((((k0 + cnts (x1.take i)) + 1) + 1) + 1) + 1) + 1) + 1) : Nat) : Int), ((((((((((k0 + cnts (x1.take i)) + 1) + 1) + 1) + 1) + 1) + 1) + 1) : Nat) : Int), (mtx (((((((((k0 + cnts (x1.take i)) + 1) + 1) + 1) + 1) + 1) + 1) + 1) + 1)), (mtx ((((((((((k0 + cnts (x1.take i)) + 1) + 1) + 1) + 1) + 1) + 1) + 1) + 1) + 1)), (mtx (((((((((((k0 + cnts (x1.take i)) + 1) + 1) + 1) + 1) + 1) + 1) + 1) + 1) + 1) + 1)), ((((((((((((((k0 + cnts (x1.take i)) + 1) + 1) + 1) + 1) + 1) + 1) + 1) + 1) + 1) + 1) + 1) : Nat) : Int), (Mk.mkd (((((((((((((k0 + cnts (x1.take i)) + 1) + 1) + 1) + 1) + 1) + 1) + 1) + 1) + 1) + 1) + 1) + 1) b58)), ((((((((((((((((k0 + cnts (x1.take i)) + 1) + 1) + 1) + 1) + 1) + 1) + 1) + 1) + 1) + 1) + 1) + 1) + Mk.cnt b58) : Nat) : Int), b7, b8) : T_Inst)).set i ((((((k0 + cnts (x1.take i)) : Nat) : Int), ((((k0 + cnts (x1.take i)) + 1) : Nat) : Int)), (((((k0 + cnts (x1.take i)) + 1) + 1) : Nat) : Int), ((((((k0 + cnts (x1.take i)) + 1) + 1) + 1) : Nat) : Int), (((((((k0 + cnts (x1.take i)) + 1) + 1) + 1) + 1) : Nat) : Int), (((((((((k0 + cnts (x1.take i)) + 1) + 1) + 1) + 1) + 1) : Nat) : Int), (((((((((k0 + cnts (x1.take i)) + 1) + 1) + 1) + 1) + 1) + 1) : Nat) : Int), ((((((((((k0 + cnts (x1.take i)) + 1) + 1) + 1) + 1) + 1) + 1) + 1) : Nat) : Int), (mtx (((((((((k0 + cnts (x1.take i)) + 1) + 1) + 1) + 1) + 1) + 1) + 1) + 1)), (mtx ((((((((((k0 + cnts (x1.take i)) + 1) + 1) + 1) + 1) + 1) + 1) + 1) + 1) + 1)), (mtx (((((((((((k0 + cnts (x1.take i)) + 1) + 1) + 1) + 1) + 1) + 1) + 1) + 1) + 1) + 1)), ((((((((((((((k0 + cnts (x1.take i)) + 1) + 1) + 1) + 1) + 1) + 1) + 1) + 1) + 1) + 1) + 1) : Nat) : Int), (Mk.mkd (((((((((((((k0 + cnts (x1.take i)) + 1) + 1) + 1) + 1) + 1) + 1) + 1) + 1) + 1) + 1) + 1) + 1) b58)), ((((((((((((((((k0 + cnts (x1.take i)) + 1) + 1) + 1) + 1) + 1) + 1) + 1) + 1) + 1) + 1) + 1) + 1) + Mk.cnt b58) : Nat) : Int), (Mk.mkd (((((((((((((((k0 + cnts (x1.take i)) + 1) + 1) + 1) + 1) + 1) + 1) + 1) + 1) + 1) + 1) + 1) + 1) + Mk.cnt b58) + 1) b7), b8) : T_Inst)).set i ((((((k0 + cnts (x1.take i)) : Nat) : Int), ((((k0 + cnts (x1.take i)) + 1) : Nat) : Int)), (((((k0 + cnts (x1.take i)) + 1) + 1) : Nat) : Int), ((((((k0 + cnts (x1.take i)) + 1) + 1) + 1) : Nat) : Int), (((((((k0 + cnts (x1.take i)) + 1) + 1) + 1) + 1) : Nat) : Int), (((((((((k0 + cnts (x1.take i)) + 1) + 1) + 1) + 1) + 1) : Nat) : Int), (((((((((k0 + cnts (x1.take i)) + 1) + 1) + 1) + 1) + 1) + 1) : Nat) : Int), ((((((((((k0 + cnts (x1.take i)) + 1) + 1) + 1) + 1) + 1) + 1) + 1) : Nat) : Int), (mtx (((((((((k0 + cnts (x1.take i)) + 1) + 1) + 1) + 1) + 1) + 1) + 1) + 1)), (mtx ((((((((((k0 + cnts (x1.take i)) + 1) + 1) + 1) + 1) + 1) + 1) + 1) + 1) + 1)), (mtx (((((((((((k0 + cnts (x1.take i)) + 1) + 1) + 1) + 1) + 1) + 1) + 1) + 1) + 1) + 1)), ((((((((((((((k0 + cnts (x1.take i)) + 1) + 1) + 1) + 1) + 1) + 1) + 1) + 1) + 1) + 1) + 1) : Nat) : Int), (Mk.mkd (((((((((((((k0 + cnts (x1.take i)) + 1) + 1) + 1) + 1) + 1) + 1) + 1) + 1) + 1) + 1) + 1) + 1) b58)), ((((((((((((((((k0 + cnts (x1.take i)) + 1) + 1) + 1) + 1) + 1) + 1) + 1) + 1) + 1) + 1) + 1) + 1) + Mk.cnt b58) : Nat) : Int), (Mk.mkd (((((((((((((((k0 + cnts (x1.take i)) + 1) + 1) + 1) + 1) + 1) + 1) + 1) + 1) + 1) + 1) + 1) + 1) + Mk.cnt b58) + 1) b7), (decide (((((((((((((((((((k0 + cnts (x1.take i)) + 1) + 1) + 1) + 1) + 1) + 1) + 1) + 1) + 1) + 1) + 1) + 1) + Mk.cnt b58) + 1) + Mk.cnt b7) : Nat) : Int).tmod 3 = 0))) : T_Inst)) = half k0 (i + 1) x1 := by
        have h9 := half_set (k := k0) hu
        try simp only [mk_pair, mk_int, mk_str, mk_bool, cnt_pair, cnt_int, cnt_str, cnt_bool, ← Nat.add_assoc] at h9
        try simp only [List.set_set]
        exact h9
      refine W_conv (M' := treeH (⟨some ⟨g, 0, none⟩, c1, e1, (half k0 (i + 1) x1), y1⟩ : TL T_Inst) :: _) (fun w h => by rw [← hfin]; exact h) ?_
      have hE : (((((((((((((((((k0 + cnts (x1.take i)) + 1) + 1) + 1) + 1) + 1) + 1) + 1) + 1) + 1) + 1) + 1) + 1) + Mk.cnt b58) + 1) + Mk.cnt b7) + 1) = k0 + cnts (x1.take (i + 1)) := by rw [hs]; (try simp only [cnt_pair, cnt_int, cnt_str, cnt_bool]); omega
      rw [hE]
      refine W_region ?_
      refine L_move rfl rfl ?_
      refine L_binV rfl rfl rfl (bv_addR (by unfold inR; omega)) ?_
      refine L_assign rfl rfl ?_
      refine L_nil ?_
      refine ⟨i + 1, (Sub.cons rfl (Sub.cons rfl (Sub.cons rfl (Sub.nil _)))), (MSub.cons (by repeat (first | exact Pick.here _ | apply Pick.there)) (MSub.nil _)), ?_, ?_⟩
      · skip
        show i + 1 ≤ x1.length
        omega
      · skip
        show x1.length - (i + 1) < x1.length - i
        omega
    · skip
      refine W_exit ?_
      refine W_seq ?_
      refine W_region ?_
      refine L_move rfl rfl ?_
      refine L_assign rfl rfl ?_
      refine L_nil ?_
      refine W_ret ?_
      -- return 1 (R34)
      have hk2 : x1.length ≤ i := by simpa using hc2
      rw [half_all k0 hk2]
      refine res1 rfl (ResOK.tmp rfl) ⟨?_, rfl⟩ (MSub.cons (by repeat (first | exact Pick.here _ | apply Pick.there)) (MSub.nil _))
      have hk2 : x1.length ≤ i := by simpa using hc2
      rw [List.take_of_length_le hk2]; rfl

set_option maxHeartbeats 4000000 in
theorem heldInstS_spec (w : World) (t1 : TL T_Inst) (k0 : Nat) (hk0 : 0 < k0) (hb : k0 + Mk.cnt t1 < 9223372036854775807) (h1 : GT.rd w [] (Mk.mkd k0 t1)) : Spec Try.prog 172 [(Mk.mkd k0 t1).hdr, .int .i64 (k0 : Int)].toArray w [] (IsV (.int .i64 ((k0 + Mk.cnt t1 : Nat) : Int))) := by
  obtain ⟨a1, c1, e1, x1, y1⟩ := t1
  replace hb : k0 + cnts x1 < 9223372036854775807 := hb
  have hml := mks_length x1 k0
  have hm1 : (mks k0 x1).length ≤ 9223372036854775807 := rd_len h1
  rw [mk_TL] at h1 ⊢
  dsimp only [TL.hdr]
  refine Spec.intro Try.func172 rfl Try.ntmps172 rfl ?_
  refine W_seq ?_
  refine W_region ?_
  refine L_assign rfl rfl ?_
  refine L_nil ?_
  refine W_seq ?_
  refine W_seq ?_
  refine W_region ?_
  refine L_assign rfl rfl ?_
  refine L_nil ?_
  refine W_block ?_
  refine W_loopC (σ := Nat) 0 (fun (i : Nat) => [(1, .int .i64 ((k0 + cnts (x1.take i) : Nat) : Int)), (5, .int .i64 (i : Int))]) (fun (i : Nat) => []) (fun (i : Nat) => i ≤ x1.length) (fun (i : Nat) => x1.length - i) [(0, _)] [] ?_ (Sub.cons rfl (Sub.cons rfl (Sub.cons rfl (Sub.nil _)))) (MSub.nil _) ?_
  · skip
    exact Nat.zero_le _
  · skip
    rintro i hi
    refine W_weaken (l' := [(0, _), (1, _), (5, _)]) (Sub.cons rfl (Sub.cons rfl (Sub.cons rfl (Sub.nil _)))) (M' := []) (MSub.nil _) ?_
    refine W_seq ?_
    refine W_seq ?_
    refine W_region ?_
    refine L_move rfl rfl ?_
    refine L_move rfl rfl ?_
    refine L_lenS rfl rfl el114 ?_
    refine L_binV rfl rfl rfl bv_lss ?_
    refine L_nil ?_
    refine W_weaken (l' := [(0, _), (1, _), (5, _), (9, _)]) (Sub.cons rfl (Sub.cons rfl (Sub.cons rfl (Sub.cons rfl (Sub.nil _))))) (MSub.refl _) ?_
    refine W_cond rfl (fun hc2 => ?_) (fun hc2 => ?_)
    · skip
      have hk1 : i < (mks k0 x1).length := by simpa using hc2
      obtain ⟨g, o1, rfl⟩ := rd_addr h1 hk1
      obtain ⟨u, hu⟩ := getEl (show i < x1.length by omega)
      have hs := cnts_take_succ hu
      have hle := cnts_take_le x1 (i + 1)
      have hu2 := mks_get (k := k0) hu
      obtain ⟨⟨b11, b12⟩, b2, b3, b4, ⟨b51, b52, b53, b54, b55, b56, b57, b58⟩, b6, b7, b8⟩ := u
      simp only [mk_pair, mk_int, mk_str, mk_bool, cnt_pair, cnt_int, cnt_str, cnt_bool, ← Nat.add_assoc] at hs hu2
      refine W_skip ?_
      refine W_seq ?_
      refine W_block ?_
      refine W_seq ?_
      refine W_seq ?_
      refine W_region ?_
      refine L_move rfl rfl ?_
      refine L_move rfl rfl ?_
      refine L_indexAddr rfl rfl rfl el114 rfl (by omega) ?_
      refine L_fieldAddr rfl rfl fld267_0 ?_
      refine L_fieldAddr rfl rfl fld264_0 ?_
      refine L_load (fo := 0) rfl rfl (by first | exact RdC.blk (by repeat (first | exact List.Mem.head _ | apply List.Mem.tail)) | exact RdC.old (Cells.el h1 rfl hu2)) one3 rfl ?_
      refine L_move rfl rfl ?_
      refine L_binV rfl rfl rfl bv_neq ?_
      refine L_nil ?_
      refine W_weaken (l' := [(0, _), (1, _), (5, _), (19, _)]) (Sub.cons rfl (Sub.cons rfl (Sub.cons rfl (Sub.cons rfl (Sub.nil _))))) (MSub.refl _) ?_
      refine W_cond rfl (fun hc4 => ?_) (fun hc4 => ?_)
      · skip
        refine W_seq ?_
        refine W_region ?_
        refine L_assign rfl rfl ?_
        refine L_nil ?_
        refine W_ret ?_
        -- return 1 (R5)
        refine res1 rfl (ResOK.tmp rfl) ⟨?_, rfl⟩ (MSub.nil _)
        exfalso; simp [mk_int, mk_str, mk_bool] at hc4
      · skip
        refine W_skip ?_
        refine W_seq ?_
        refine W_region ?_
        refine L_move rfl rfl ?_
        refine L_binV rfl rfl rfl (bv_addR (by unfold inR; omega)) ?_
        refine L_assign rfl rfl ?_
        refine L_nil ?_
        rw [show (((k0 + cnts (x1.take i)) : Nat) : Int) + 1 = (((k0 + cnts (x1.take i)) + 1 : Nat) : Int) from rfl]
        refine W_seq ?_
        refine W_seq ?_
        refine W_region ?_
        refine L_move rfl rfl ?_
        refine L_move rfl rfl ?_
        refine L_indexAddr rfl rfl rfl el114 rfl (by omega) ?_
        refine L_fieldAddr rfl rfl fld267_0 ?_
        refine L_fieldAddr rfl rfl fld264_1 ?_
        refine L_load (fo := 1) rfl rfl (by first | exact RdC.blk (by repeat (first | exact List.Mem.head _ | apply List.Mem.tail)) | exact RdC.old (Cells.el h1 rfl hu2)) one3 rfl ?_
        refine L_move rfl rfl ?_
        refine L_binV rfl rfl rfl bv_neq ?_
        refine L_nil ?_
        refine W_weaken (l' := [(0, _), (1, _), (5, _), (29, _)]) (Sub.cons rfl (Sub.cons rfl (Sub.cons rfl (Sub.cons rfl (Sub.nil _))))) (MSub.refl _) ?_
        refine W_cond rfl (fun hc7 => ?_) (fun hc7 => ?_)
        · skip
          refine W_seq ?_
          refine W_region ?_
          refine L_assign rfl rfl ?_
          refine L_nil ?_
          refine W_ret ?_
          -- return 2 (R8)
          refine res1 rfl (ResOK.tmp rfl) ⟨?_, rfl⟩ (MSub.nil _)
          exfalso; simp [mk_int, mk_str, mk_bool] at hc7
        · skip
          refine W_skip ?_
          refine W_seq ?_
          refine W_region ?_
          refine L_move rfl rfl ?_
          refine L_binV rfl rfl rfl (bv_addR (by unfold inR; omega)) ?_
          refine L_assign rfl rfl ?_
          refine L_nil ?_
          rw [show ((((k0 + cnts (x1.take i)) + 1) : Nat) : Int) + 1 = ((((k0 + cnts (x1.take i)) + 1) + 1 : Nat) : Int) from rfl]
          refine W_seq ?_
          refine W_seq ?_
          refine W_region ?_
          refine L_move rfl rfl ?_
          refine L_move rfl rfl ?_
          refine L_indexAddr rfl rfl rfl el114 rfl (by omega) ?_
          refine L_fieldAddr rfl rfl fld267_1 ?_
          refine L_load rfl rfl (by first | exact RdC.blk (by repeat (first | exact List.Mem.head _ | apply List.Mem.tail)) | exact RdC.old (Cells.el h1 rfl hu2)) one3 rfl ?_
          refine L_move rfl rfl ?_
          refine L_binV rfl rfl rfl bv_neq ?_
          refine L_nil ?_
          refine W_weaken (l' := [(0, _), (1, _), (5, _), (38, _)]) (Sub.cons rfl (Sub.cons rfl (Sub.cons rfl (Sub.cons rfl (Sub.nil _))))) (MSub.refl _) ?_
          refine W_cond rfl (fun hc10 => ?_) (fun hc10 => ?_)
          · skip
            refine W_seq ?_
            refine W_region ?_
            refine L_assign rfl rfl ?_
            refine L_nil ?_
            refine W_ret ?_
            -- return 3 (R11)
            refine res1 rfl (ResOK.tmp rfl) ⟨?_, rfl⟩ (MSub.nil _)
            exfalso; simp [mk_int, mk_str, mk_bool] at hc10
          · skip
            refine W_skip ?_
            refine W_seq ?_
            refine W_region ?_
            refine L_move rfl rfl ?_
            refine L_binV rfl rfl rfl (bv_addR (by unfold inR; omega)) ?_
            refine L_assign rfl rfl ?_
            refine L_nil ?_
            rw [show (((((k0 + cnts (x1.take i)) + 1) + 1) : Nat) : Int) + 1 = (((((k0 + cnts (x1.take i)) + 1) + 1) + 1 : Nat) : Int) from rfl]
            refine W_seq ?_
            refine W_seq ?_
            refine W_region ?_
            refine L_move rfl rfl ?_
            refine L_move rfl rfl ?_
            refine L_indexAddr rfl rfl rfl el114 rfl (by omega) ?_
            refine L_fieldAddr rfl rfl fld267_2 ?_
            refine L_load rfl rfl (by first | exact RdC.blk (by repeat (first | exact List.Mem.head _ | apply List.Mem.tail)) | exact RdC.old (Cells.el h1 rfl hu2)) one3 rfl ?_
            refine L_move rfl rfl ?_
            refine L_binV rfl rfl rfl bv_neq ?_
            refine L_nil ?_
            refine W_weaken (l' := [(0, _), (1, _), (5, _), (47, _)]) (Sub.cons rfl (Sub.cons rfl (Sub.cons rfl (Sub.cons rfl (Sub.nil _))))) (MSub.refl _) ?_
            refine W_cond rfl (fun hc13 => ?_) (fun hc13 => ?_)
            · skip
              refine W_seq ?_
              refine W_region ?_
              refine L_assign rfl rfl ?_
              refine L_nil ?_
              refine W_ret ?_
              -- return 4 (R14)
              refine res1 rfl (ResOK.tmp rfl) ⟨?_, rfl⟩ (MSub.nil _)
              exfalso; simp [mk_int, mk_str, mk_bool] at hc13
            · skip
              refine W_skip ?_
              refine W_seq ?_
              refine W_region ?_
              refine L_move rfl rfl ?_
              refine L_binV rfl rfl rfl (bv_addR (by unfold inR; omega)) ?_
              refine L_assign rfl rfl ?_
              refine L_nil ?_
              rw [show ((((((k0 + cnts (x1.take i)) + 1) + 1) + 1) : Nat) : Int) + 1 = ((((((k0 + cnts (x1.take i)) + 1) + 1) + 1) + 1 : Nat) : Int) from rfl]
              refine W_seq ?_
              refine W_seq ?_
              refine W_region ?_
              refine L_move rfl rfl ?_
              refine L_move rfl rfl ?_
              refine L_indexAddr rfl rfl rfl el114 rfl (by omega) ?_
              refine L_fieldAddr rfl rfl fld267_3 ?_
              refine L_load rfl rfl (by first | exact RdC.blk (by repeat (first | exact List.Mem.head _ | apply List.Mem.tail)) | exact RdC.old (Cells.el h1 rfl hu2)) one3 rfl ?_
              refine L_move rfl rfl ?_
              refine L_binV rfl rfl rfl bv_neq ?_
              refine L_nil ?_
              refine W_weaken (l' := [(0, _), (1, _), (5, _), (56, _)]) (Sub.cons rfl (Sub.cons rfl (Sub.cons rfl (Sub.cons rfl (Sub.nil _))))) (MSub.refl _) ?_
              refine W_cond rfl (fun hc16 => ?_) (fun hc16 => ?_)
              · skip
                refine W_seq ?_
                refine W_region ?_
                refine L_assign rfl rfl ?_
                refine L_nil ?_
                refine W_ret ?_
                -- return 5 (R17)
                refine res1 rfl (ResOK.tmp rfl) ⟨?_, rfl⟩ (MSub.nil _)
                exfalso; simp [mk_int, mk_str, mk_bool] at hc16
              · skip
                refine W_skip ?_
                refine W_seq ?_
                refine W_region ?_
                refine L_move rfl rfl ?_
                refine L_binV rfl rfl rfl (bv_addR (by unfold inR; omega)) ?_
                refine L_assign rfl rfl ?_
                refine L_nil ?_
                rw [show (((((((k0 + cnts (x1.take i)) + 1) + 1) + 1) + 1) : Nat) : Int) + 1 = (((((((k0 + cnts (x1.take i)) + 1) + 1) + 1) + 1) + 1 : Nat) : Int) from rfl]
                refine W_seq ?_
                refine W_seq ?_
                refine W_region ?_
                refine L_move rfl rfl ?_
                refine L_move rfl rfl ?_
                refine L_indexAddr rfl rfl rfl el114 rfl (by omega) ?_
                refine L_fieldAddr rfl rfl fld267_4 ?_
                refine L_fieldAddr rfl rfl fld129_0 ?_
                refine L_load (fo := 5) rfl rfl (by first | exact RdC.blk (by repeat (first | exact List.Mem.head _ | apply List.Mem.tail)) | exact RdC.old (Cells.el h1 rfl hu2)) one3 rfl ?_
                refine L_move rfl rfl ?_
                refine L_binV rfl rfl rfl bv_neq ?_
                refine L_nil ?_
                refine W_weaken (l' := [(0, _), (1, _), (5, _), (66, _)]) (Sub.cons rfl (Sub.cons rfl (Sub.cons rfl (Sub.cons rfl (Sub.nil _))))) (MSub.refl _) ?_
                refine W_cond rfl (fun hc19 => ?_) (fun hc19 => ?_)
                · skip
                  refine W_seq ?_
                  refine W_region ?_
                  refine L_assign rfl rfl ?_
                  refine L_nil ?_
                  refine W_ret ?_
                  -- return 6 (R20)
                  refine res1 rfl (ResOK.tmp rfl) ⟨?_, rfl⟩ (MSub.nil _)
                  exfalso; simp [mk_int, mk_str, mk_bool] at hc19
                · skip
                  refine W_skip ?_
                  refine W_seq ?_
                  refine W_region ?_
                  refine L_move rfl rfl ?_
                  refine L_binV rfl rfl rfl (bv_addR (by unfold inR; omega)) ?_
                  refine L_assign rfl rfl ?_
                  refine L_nil ?_
                  rw [show ((((((((k0 + cnts (x1.take i)) + 1) + 1) + 1) + 1) + 1) : Nat) : Int) + 1 = ((((((((k0 + cnts (x1.take i)) + 1) + 1) + 1) + 1) + 1) + 1 : Nat) : Int) from rfl]
                  refine W_seq ?_
                  refine W_seq ?_
                  refine W_region ?_
                  refine L_move rfl rfl ?_
                  refine L_move rfl rfl ?_
                  refine L_indexAddr rfl rfl rfl el114 rfl (by omega) ?_
                  refine L_fieldAddr rfl rfl fld267_4 ?_
                  refine L_fieldAddr rfl rfl fld129_1 ?_
                  refine L_load (fo := 6) rfl rfl (by first | exact RdC.blk (by repeat (first | exact List.Mem.head _ | apply List.Mem.tail)) | exact RdC.old (Cells.el h1 rfl hu2)) one3 rfl ?_
                  refine L_move rfl rfl ?_
                  refine L_binV rfl rfl rfl bv_neq ?_
                  refine L_nil ?_
                  refine W_weaken (l' := [(0, _), (1, _), (5, _), (76, _)]) (Sub.cons rfl (Sub.cons rfl (Sub.cons rfl (Sub.cons rfl (Sub.nil _))))) (MSub.refl _) ?_
                  refine W_cond rfl (fun hc22 => ?_) (fun hc22 => ?_)
                  · skip
                    refine W_seq ?_
                    refine W_region ?_
                    refine L_assign rfl rfl ?_
                    refine L_nil ?_
                    refine W_ret ?_
                    -- return 7 (R23)
                    refine res1 rfl (ResOK.tmp rfl) ⟨?_, rfl⟩ (MSub.nil _)
                    exfalso; simp [mk_int, mk_str, mk_bool] at hc22
                  · skip
                    refine W_skip ?_
                    refine W_seq ?_
                    refine W_region ?_
                    refine L_move rfl rfl ?_
                    refine L_binV rfl rfl rfl (bv_addR (by unfold inR; omega)) ?_
                    refine L_assign rfl rfl ?_
                    refine L_nil ?_
                    rw [show (((((((((k0 + cnts (x1.take i)) + 1) + 1) + 1) + 1) + 1) + 1) : Nat) : Int) + 1 = (((((((((k0 + cnts (x1.take i)) + 1) + 1) + 1) + 1) + 1) + 1) + 1 : Nat) : Int) from rfl]
                    refine W_seq ?_
                    refine W_seq ?_
                    refine W_region ?_
                    refine L_move rfl rfl ?_
                    refine L_move rfl rfl ?_
                    refine L_indexAddr rfl rfl rfl el114 rfl (by omega) ?_
                    refine L_fieldAddr rfl rfl fld267_4 ?_
                    refine L_fieldAddr rfl rfl fld129_2 ?_
                    refine L_load (fo := 7) rfl rfl (by first | exact RdC.blk (by repeat (first | exact List.Mem.head _ | apply List.Mem.tail)) | exact RdC.old (Cells.el h1 rfl hu2)) one3 rfl ?_
                    refine L_move rfl rfl ?_
                    refine L_binV rfl rfl rfl bv_neq ?_
                    refine L_nil ?_
                    refine W_weaken (l' := [(0, _), (1, _), (5, _), (86, _)]) (Sub.cons rfl (Sub.cons rfl (Sub.cons rfl (Sub.cons rfl (Sub.nil _))))) (MSub.refl _) ?_
                    refine W_cond rfl (fun hc25 => ?_) (fun hc25 => ?_)
                    · skip
                      refine W_seq ?_
                      refine W_region ?_
                      refine L_assign rfl rfl ?_
                      refine L_nil ?_
                      refine W_ret ?_
                      -- return 8 (R26)
                      refine res1 rfl (ResOK.tmp rfl) ⟨?_, rfl⟩ (MSub.nil _)
                      exfalso; simp [mk_int, mk_str, mk_bool] at hc25
                    · skip
                      refine W_skip ?_
                      refine W_seq ?_
                      refine W_region ?_
                      refine L_move rfl rfl ?_
                      refine L_binV rfl rfl rfl (bv_addR (by unfold inR; omega)) ?_
                      refine L_assign rfl rfl ?_
                      refine L_nil ?_
                      rw [show ((((((((((k0 + cnts (x1.take i)) + 1) + 1) + 1) + 1) + 1) + 1) + 1) : Nat) : Int) + 1 = ((((((((((k0 + cnts (x1.take i)) + 1) + 1) + 1) + 1) + 1) + 1) + 1) + 1 : Nat) : Int) from rfl]
                      refine W_seq ?_
                      refine W_seq ?_
                      refine W_D0 [97] mix (by kernel_rfl) rfl ?_
                      refine D_move GC.none (OpV.t rfl) ?_
                      refine D_move GC.none (OpV.t rfl) ?_
                      refine D_indexAddr _ GC.none (OpV.t rfl) (OpV.t rfl) el114 (fun hg => ⟨rfl, by (try dsimp only); omega⟩) ?_
                      refine D_fieldAddr GC.none (OpV.t rfl) fld267_4 ?_
                      refine D_fieldAddr GC.none (OpV.t rfl) fld129_3 ?_
                      refine D_load (fo := 8) GC.none (OpV.t rfl) (fun hg => (by first | exact RdC.blk (by repeat (first | exact List.Mem.head _ | apply List.Mem.tail)) | exact RdC.old (Cells.el h1 rfl hu2))) one9 rfl ?_
                      refine D_move GC.none (OpV.t rfl) ?_
                      refine D_callX GC.none fn115 (OpVs.cons (OpV.t rfl) (OpVs.nil)) (by exact fun hg w F hF hM => (fun w hw => markText_spec w (((((((((k0 + cnts (x1.take i)) + 1) + 1) + 1) + 1) + 1) + 1) + 1) + 1) (by omega) (by omega)) w hF) ?_
                      refine D_bin GC.none (OpV.t rfl) (OpV.t rfl) (fun hg => bv_sneq) ?_
                      refine DV_nil ?_
                      refine Give_is rfl rfl ?_
                      refine Give_drop rfl ?_
                      refine Give_drop rfl ?_
                      refine Give_drop rfl ?_
                      refine Give_drop rfl ?_
                      refine Give_drop rfl ?_
                      refine Give_drop rfl ?_
                      refine Give_drop rfl ?_
                      refine Give_drop rfl ?_
                      refine Give_nil ?_
                      refine W_weaken (l' := [(0, _), (1, _), (5, _), (97, _)]) (Sub.cons rfl (Sub.cons rfl (Sub.cons rfl (Sub.cons rfl (Sub.nil _))))) (MSub.refl _) ?_
                      refine W_cond rfl (fun hc28 => ?_) (fun hc28 => ?_)
                      · skip
                        refine W_seq ?_
                        refine W_region ?_
                        refine L_assign rfl rfl ?_
                        refine L_nil ?_
                        refine W_ret ?_
                        -- return 9 (R29)
                        refine res1 rfl (ResOK.tmp rfl) ⟨?_, rfl⟩ (MSub.nil _)
                        exfalso; simp [mk_int, mk_str, mk_bool] at hc28
                      · skip
                        refine W_skip ?_
                        refine W_seq ?_
                        refine W_region ?_
                        refine L_move rfl rfl ?_
                        refine L_binV rfl rfl rfl (bv_addR (by unfold inR; omega)) ?_
                        refine L_assign rfl rfl ?_
                        refine L_nil ?_
                        rw [show (((((((((((k0 + cnts (x1.take i)) + 1) + 1) + 1) + 1) + 1) + 1) + 1) + 1) : Nat) : Int) + 1 = (((((((((((k0 + cnts (x1.take i)) + 1) + 1) + 1) + 1) + 1) + 1) + 1) + 1) + 1 : Nat) : Int) from rfl]
                        refine W_seq ?_
                        refine W_seq ?_
                        refine W_D0 [108] mix (by kernel_rfl) rfl ?_
                        refine D_move GC.none (OpV.t rfl) ?_
                        refine D_move GC.none (OpV.t rfl) ?_
                        refine D_indexAddr _ GC.none (OpV.t rfl) (OpV.t rfl) el114 (fun hg => ⟨rfl, by (try dsimp only); omega⟩) ?_
                        refine D_fieldAddr GC.none (OpV.t rfl) fld267_4 ?_
                        refine D_fieldAddr GC.none (OpV.t rfl) fld129_4 ?_
                        refine D_load (fo := 9) GC.none (OpV.t rfl) (fun hg => (by first | exact RdC.blk (by repeat (first | exact List.Mem.head _ | apply List.Mem.tail)) | exact RdC.old (Cells.el h1 rfl hu2))) one9 rfl ?_
                        refine D_move GC.none (OpV.t rfl) ?_
                        refine D_callX GC.none fn115 (OpVs.cons (OpV.t rfl) (OpVs.nil)) (by exact fun hg w F hF hM => (fun w hw => markText_spec w ((((((((((k0 + cnts (x1.take i)) + 1) + 1) + 1) + 1) + 1) + 1) + 1) + 1) + 1) (by omega) (by omega)) w hF) ?_
                        refine D_bin GC.none (OpV.t rfl) (OpV.t rfl) (fun hg => bv_sneq) ?_
                        refine DV_nil ?_
                        refine Give_is rfl rfl ?_
                        refine Give_drop rfl ?_
                        refine Give_drop rfl ?_
                        refine Give_drop rfl ?_
                        refine Give_drop rfl ?_
                        refine Give_drop rfl ?_
                        refine Give_drop rfl ?_
                        refine Give_drop rfl ?_
                        refine Give_drop rfl ?_
                        refine Give_nil ?_
                        refine W_weaken (l' := [(0, _), (1, _), (5, _), (108, _)]) (Sub.cons rfl (Sub.cons rfl (Sub.cons rfl (Sub.cons rfl (Sub.nil _))))) (MSub.refl _) ?_
                        refine W_cond rfl (fun hc31 => ?_) (fun hc31 => ?_)
                        · skip
                          refine W_seq ?_
                          refine W_region ?_
                          refine L_assign rfl rfl ?_
                          refine L_nil ?_
                          refine W_ret ?_
                          -- return 10 (R32)
                          refine res1 rfl (ResOK.tmp rfl) ⟨?_, rfl⟩ (MSub.nil _)
                          exfalso; simp [mk_int, mk_str, mk_bool] at hc31
                        · skip
                          refine W_skip ?_
                          refine W_seq ?_
                          refine W_region ?_
                          refine L_move rfl rfl ?_
                          refine L_binV rfl rfl rfl (bv_addR (by unfold inR; omega)) ?_
                          refine L_assign rfl rfl ?_
                          refine L_nil ?_
                          rw [show ((((((((((((k0 + cnts (x1.take i)) + 1) + 1) + 1) + 1) + 1) + 1) + 1) + 1) + 1) : Nat) : Int) + 1 = ((((((((((((k0 + cnts (x1.take i)) + 1) + 1) + 1) + 1) + 1) + 1) + 1) + 1) + 1) + 1 : Nat) : Int) from rfl]
                          refine W_seq ?_
                          refine W_seq ?_
                          refine W_D0 [119] mix (by kernel_rfl) rfl ?_
                          refine D_move GC.none (OpV.t rfl) ?_
                          refine D_move GC.none (OpV.t rfl) ?_
                          refine D_indexAddr _ GC.none (OpV.t rfl) (OpV.t rfl) el114 (fun hg => ⟨rfl, by (try dsimp only); omega⟩) ?_
                          refine D_fieldAddr GC.none (OpV.t rfl) fld267_4 ?_
                          refine D_fieldAddr GC.none (OpV.t rfl) fld129_5 ?_
                          refine D_load (fo := 10) GC.none (OpV.t rfl) (fun hg => (by first | exact RdC.blk (by repeat (first | exact List.Mem.head _ | apply List.Mem.tail)) | exact RdC.old (Cells.el h1 rfl hu2))) one9 rfl ?_
                          refine D_move GC.none (OpV.t rfl) ?_
                          refine D_callX GC.none fn115 (OpVs.cons (OpV.t rfl) (OpVs.nil)) (by exact fun hg w F hF hM => (fun w hw => markText_spec w (((((((((((k0 + cnts (x1.take i)) + 1) + 1) + 1) + 1) + 1) + 1) + 1) + 1) + 1) + 1) (by omega) (by omega)) w hF) ?_
                          refine D_bin GC.none (OpV.t rfl) (OpV.t rfl) (fun hg => bv_sneq) ?_
                          refine DV_nil ?_
                          refine Give_is rfl rfl ?_
                          refine Give_drop rfl ?_
                          refine Give_drop rfl ?_
                          refine Give_drop rfl ?_
                          refine Give_drop rfl ?_
                          refine Give_drop rfl ?_
                          refine Give_drop rfl ?_
                          refine Give_drop rfl ?_
                          refine Give_drop rfl ?_
                          refine Give_nil ?_
                          refine W_weaken (l' := [(0, _), (1, _), (5, _), (119, _)]) (Sub.cons rfl (Sub.cons rfl (Sub.cons rfl (Sub.cons rfl (Sub.nil _))))) (MSub.refl _) ?_
                          refine W_cond rfl (fun hc34 => ?_) (fun hc34 => ?_)
                          · skip
                            refine W_seq ?_
                            refine W_region ?_
                            refine L_assign rfl rfl ?_
                            refine L_nil ?_
                            refine W_ret ?_
                            -- return 11 (R35)
                            refine res1 rfl (ResOK.tmp rfl) ⟨?_, rfl⟩ (MSub.nil _)
                            exfalso; simp [mk_int, mk_str, mk_bool] at hc34
                          · skip
                            refine W_skip ?_
                            refine W_seq ?_
                            refine W_region ?_
                            refine L_move rfl rfl ?_
                            refine L_binV rfl rfl rfl (bv_addR (by unfold inR; omega)) ?_
                            refine L_assign rfl rfl ?_
                            refine L_nil ?_
                            rw [show (((((((((((((k0 + cnts (x1.take i)) + 1) + 1) + 1) + 1) + 1) + 1) + 1) + 1) + 1) + 1) : Nat) : Int) + 1 = (((((((((((((k0 + cnts (x1.take i)) + 1) + 1) + 1) + 1) + 1) + 1) + 1) + 1) + 1) + 1) + 1 : Nat) : Int) from rfl]
                            refine W_seq ?_
                            refine W_seq ?_
                            refine W_region ?_
                            refine L_move rfl rfl ?_
                            refine L_move rfl rfl ?_
                            refine L_indexAddr rfl rfl rfl el114 rfl (by omega) ?_
                            refine L_fieldAddr rfl rfl fld267_4 ?_
                            refine L_fieldAddr rfl rfl fld129_6 ?_
                            refine L_load (fo := 11) rfl rfl (by first | exact RdC.blk (by repeat (first | exact List.Mem.head _ | apply List.Mem.tail)) | exact RdC.old (Cells.el h1 rfl hu2)) one3 rfl ?_
                            refine L_move rfl rfl ?_
                            refine L_binV rfl rfl rfl bv_neq ?_
                            refine L_nil ?_
                            refine W_weaken (l' := [(0, _), (1, _), (5, _), (129, _)]) (Sub.cons rfl (Sub.cons rfl (Sub.cons rfl (Sub.cons rfl (Sub.nil _))))) (MSub.refl _) ?_
                            refine W_cond rfl (fun hc37 => ?_) (fun hc37 => ?_)
                            · skip
                              refine W_seq ?_
                              refine W_region ?_
                              refine L_assign rfl rfl ?_
                              refine L_nil ?_
                              refine W_ret ?_
                              -- return 12 (R38)
                              refine res1 rfl (ResOK.tmp rfl) ⟨?_, rfl⟩ (MSub.nil _)
                              exfalso; simp [mk_int, mk_str, mk_bool] at hc37
                            · skip
                              refine W_skip ?_
                              refine W_seq ?_
                              refine W_region ?_
                              refine L_move rfl rfl ?_
                              refine L_binV rfl rfl rfl (bv_addR (by unfold inR; omega)) ?_
                              refine L_assign rfl rfl ?_
                              refine L_nil ?_
                              rw [show ((((((((((((((k0 + cnts (x1.take i)) + 1) + 1) + 1) + 1) + 1) + 1) + 1) + 1) + 1) + 1) + 1) : Nat) : Int) + 1 = ((((((((((((((k0 + cnts (x1.take i)) + 1) + 1) + 1) + 1) + 1) + 1) + 1) + 1) + 1) + 1) + 1) + 1 : Nat) : Int) from rfl]
                              refine W_seq ?_
                              refine W_region ?_
                              refine L_move rfl rfl ?_
                              refine L_move rfl rfl ?_
                              refine L_indexAddr rfl rfl rfl el114 rfl (by omega) ?_
                              refine L_fieldAddr rfl rfl fld267_4 ?_
                              refine L_fieldAddr rfl rfl fld129_7 ?_
                              refine L_load (fo := 12) rfl rfl (by first | exact RdC.blk (by repeat (first | exact List.Mem.head _ | apply List.Mem.tail)) | exact RdC.old (Cells.el h1 rfl hu2)) one48 rfl ?_
                              refine L_move rfl rfl ?_
                              refine L_callX rfl fn74 rfl (by exact fun w hw => heldStringS_spec w b58 (((((((((((((k0 + cnts (x1.take i)) + 1) + 1) + 1) + 1) + 1) + 1) + 1) + 1) + 1) + 1) + 1) + 1) (by omega) (by omega) (rd_carry (show GT.rd _ _ (Mk.mkd (((((((((((((k0 + cnts (x1.take i)) + 1) + 1) + 1) + 1) + 1) + 1) + 1) + 1) + 1) + 1) + 1) + 1) b58) from by have h9 := h1.2.2.1 _ (List.mem_of_getElem? hu2); (try simp only [mk_pair, mk_int, mk_str, mk_bool, cnt_pair, cnt_int, cnt_str, cnt_bool, ← Nat.add_assoc] at h9); exact h9.2.2.2.2.1.2.2.2.2.2.2.2) hw)) ?_
                              refine L_assign rfl rfl ?_
                              refine L_nil ?_
                              refine W_seq ?_
                              refine W_seq ?_
                              refine W_region ?_
                              refine L_move rfl rfl ?_
                              refine L_binV rfl rfl rfl bv_lss ?_
                              refine L_nil ?_
                              refine W_weaken (l' := [(0, _), (1, _), (5, _), (141, _)]) (Sub.cons rfl (Sub.cons rfl (Sub.cons rfl (Sub.cons rfl (Sub.nil _))))) (MSub.refl _) ?_
                              refine W_cond rfl (fun hc41 => ?_) (fun hc41 => ?_)
                              · skip
                                refine W_seq ?_
                                refine W_region ?_
                                refine L_assign rfl rfl ?_
                                refine L_nil ?_
                                refine W_ret ?_
                                -- return 13 (R42)
                                refine res1 rfl (ResOK.tmp rfl) ⟨?_, rfl⟩ (MSub.nil _)
                                exfalso; simp at hc41; omega
                              · skip
                                refine W_skip ?_
                                refine W_seq ?_
                                refine W_seq ?_
                                refine W_region ?_
                                refine L_move rfl rfl ?_
                                refine L_move rfl rfl ?_
                                refine L_indexAddr rfl rfl rfl el114 rfl (by omega) ?_
                                refine L_fieldAddr rfl rfl fld267_5 ?_
                                refine L_load rfl rfl (by first | exact RdC.blk (by repeat (first | exact List.Mem.head _ | apply List.Mem.tail)) | exact RdC.old (Cells.el h1 rfl hu2)) one3 rfl ?_
                                refine L_move rfl rfl ?_
                                refine L_binV rfl rfl rfl bv_neq ?_
                                refine L_nil ?_
                                refine W_weaken (l' := [(0, _), (1, _), (5, _), (148, _)]) (Sub.cons rfl (Sub.cons rfl (Sub.cons rfl (Sub.cons rfl (Sub.nil _))))) (MSub.refl _) ?_
                                refine W_cond rfl (fun hc43 => ?_) (fun hc43 => ?_)
                                · skip
                                  refine W_seq ?_
                                  refine W_region ?_
                                  refine L_assign rfl rfl ?_
                                  refine L_nil ?_
                                  refine W_ret ?_
                                  -- return 14 (R44)
                                  refine res1 rfl (ResOK.tmp rfl) ⟨?_, rfl⟩ (MSub.nil _)
                                  exfalso; simp [mk_int, mk_str, mk_bool] at hc43
                                · skip
                                  refine W_skip ?_
                                  refine W_seq ?_
                                  refine W_region ?_
                                  refine L_move rfl rfl ?_
                                  refine L_binV rfl rfl rfl (bv_addR (by unfold inR; omega)) ?_
                                  refine L_assign rfl rfl ?_
                                  refine L_nil ?_
                                  rw [show ((((((((((((((((k0 + cnts (x1.take i)) + 1) + 1) + 1) + 1) + 1) + 1) + 1) + 1) + 1) + 1) + 1) + 1) + Mk.cnt b58) : Nat) : Int) + 1 = ((((((((((((((((k0 + cnts (x1.take i)) + 1) + 1) + 1) + 1) + 1) + 1) + 1) + 1) + 1) + 1) + 1) + 1) + Mk.cnt b58) + 1 : Nat) : Int) from rfl]
                                  refine W_seq ?_
                                  refine W_region ?_
                                  refine L_move rfl rfl ?_
                                  refine L_move rfl rfl ?_
                                  refine L_indexAddr rfl rfl rfl el114 rfl (by omega) ?_
                                  refine L_fieldAddr rfl rfl fld267_6 ?_
                                  refine L_load rfl rfl (by first | exact RdC.blk (by repeat (first | exact List.Mem.head _ | apply List.Mem.tail)) | exact RdC.old (Cells.el h1 rfl hu2)) one265 rfl ?_
                                  refine L_move rfl rfl ?_
                                  refine L_callX rfl fn237 rfl (by exact fun w hw => heldIdS_spec w b7 (((((((((((((((k0 + cnts (x1.take i)) + 1) + 1) + 1) + 1) + 1) + 1) + 1) + 1) + 1) + 1) + 1) + 1) + Mk.cnt b58) + 1) (by omega) (by omega) (rd_carry (show GT.rd _ _ (Mk.mkd (((((((((((((((k0 + cnts (x1.take i)) + 1) + 1) + 1) + 1) + 1) + 1) + 1) + 1) + 1) + 1) + 1) + 1) + Mk.cnt b58) + 1) b7) from by have h9 := h1.2.2.1 _ (List.mem_of_getElem? hu2); (try simp only [mk_pair, mk_int, mk_str, mk_bool, cnt_pair, cnt_int, cnt_str, cnt_bool, ← Nat.add_assoc] at h9); exact h9.2.2.2.2.2.2.1) hw)) ?_
                                  refine L_assign rfl rfl ?_
                                  refine L_nil ?_
                                  refine W_seq ?_
                                  refine W_seq ?_
                                  refine W_region ?_
                                  refine L_move rfl rfl ?_
                                  refine L_binV rfl rfl rfl bv_lss ?_
                                  refine L_nil ?_
                                  refine W_weaken (l' := [(0, _), (1, _), (5, _), (159, _)]) (Sub.cons rfl (Sub.cons rfl (Sub.cons rfl (Sub.cons rfl (Sub.nil _))))) (MSub.refl _) ?_
                                  refine W_cond rfl (fun hc47 => ?_) (fun hc47 => ?_)
                                  · skip
                                    refine W_seq ?_
                                    refine W_region ?_
                                    refine L_assign rfl rfl ?_
                                    refine L_nil ?_
                                    refine W_ret ?_
                                    -- return 15 (R48)
                                    refine res1 rfl (ResOK.tmp rfl) ⟨?_, rfl⟩ (MSub.nil _)
                                    exfalso; simp at hc47; omega
                                  · skip
                                    refine W_skip ?_
                                    refine W_seq ?_
                                    refine W_seq ?_
                                    refine W_region ?_
                                    refine L_move rfl rfl ?_
                                    refine L_move rfl rfl ?_
                                    refine L_indexAddr rfl rfl rfl el114 rfl (by omega) ?_
                                    refine L_fieldAddr rfl rfl fld267_7 ?_
                                    refine L_load rfl rfl (by first | exact RdC.blk (by repeat (first | exact List.Mem.head _ | apply List.Mem.tail)) | exact RdC.old (Cells.el h1 rfl hu2)) one4 rfl ?_
                                    refine L_move rfl rfl ?_
                                    refine L_binV rfl rfl rfl (bv_rem (by omega)) ?_
                                    refine L_binV rfl rfl rfl bv_eql ?_
                                    refine L_binV rfl rfl rfl (bv_bneq und4) ?_
                                    refine L_nil ?_
                                    refine W_weaken (l' := [(0, _), (1, _), (5, _), (168, _)]) (Sub.cons rfl (Sub.cons rfl (Sub.cons rfl (Sub.cons rfl (Sub.nil _))))) (MSub.refl _) ?_
                                    refine W_cond rfl (fun hc49 => ?_) (fun hc49 => ?_)
                                    · skip
                                      refine W_seq ?_
                                      refine W_region ?_
                                      refine L_assign rfl rfl ?_
                                      refine L_nil ?_
                                      refine W_ret ?_
                                      -- return 16 (R50)
                                      refine res1 rfl (ResOK.tmp rfl) ⟨?_, rfl⟩ (MSub.nil _)
                                      exfalso; simp [mk_int, mk_str, mk_bool] at hc49
                                    · skip
                                      refine W_skip ?_
                                      refine W_region ?_
                                      refine L_move rfl rfl ?_
                                      refine L_binV rfl rfl rfl (bv_addR (by unfold inR; omega)) ?_
                                      refine L_assign rfl rfl ?_
                                      refine L_nil ?_
                                      rw [show ((((((((((((((((((k0 + cnts (x1.take i)) + 1) + 1) + 1) + 1) + 1) + 1) + 1) + 1) + 1) + 1) + 1) + 1) + Mk.cnt b58) + 1) + Mk.cnt b7) : Nat) : Int) + 1 = ((((((((((((((((((k0 + cnts (x1.take i)) + 1) + 1) + 1) + 1) + 1) + 1) + 1) + 1) + 1) + 1) + 1) + 1) + Mk.cnt b58) + 1) + Mk.cnt b7) + 1 : Nat) : Int) from rfl]
                                      have hE : (((((((((((((((((k0 + cnts (x1.take i)) + 1) + 1) + 1) + 1) + 1) + 1) + 1) + 1) + 1) + 1) + 1) + 1) + Mk.cnt b58) + 1) + Mk.cnt b7) + 1) = k0 + cnts (x1.take (i + 1)) := by rw [hs]; (try simp only [cnt_pair, cnt_int, cnt_str, cnt_bool]); omega
                                      rw [hE]
                                      refine W_region ?_
                                      refine L_move rfl rfl ?_
                                      refine L_binV rfl rfl rfl (bv_addR (by unfold inR; omega)) ?_
                                      refine L_assign rfl rfl ?_
                                      refine L_nil ?_
                                      refine ⟨i + 1, (Sub.cons rfl (Sub.cons rfl (Sub.cons rfl (Sub.nil _)))), (MSub.nil _), ?_, ?_⟩
                                      · skip
                                        show i + 1 ≤ x1.length
                                        omega
                                      · skip
                                        show x1.length - (i + 1) < x1.length - i
                                        omega
    · skip
      refine W_exit ?_
      refine W_seq ?_
      refine W_region ?_
      refine L_move rfl rfl ?_
      refine L_assign rfl rfl ?_
      refine L_nil ?_
      refine W_ret ?_
      -- return 17 (R52)
      refine res1 rfl (ResOK.tmp rfl) ⟨?_, rfl⟩ (MSub.nil _)
      have hk2 : (mks k0 x1).length ≤ i := by simpa using hc2
      rw [List.take_of_length_le (by omega)]; rfl

end Go.Proofs.SL
