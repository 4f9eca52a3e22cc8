/- The families of the exact laws over the types that they are given: equality, size, copy, marks. -/
import Derived.Test.YthebgoognabinaaFEc
import Derived.Test.YthebgoognabinaaRows
namespace Go.Proofs.SL
open Go
abbrev T_ENode := Int × Int × (TL T_Inst) × (TL T_Lead)
theorem fn170 : IsFn Try.prog 170 := ⟨_, Try.func170, by kernel_rfl, rfl⟩
theorem fn171 : IsFn Try.prog 171 := ⟨_, Try.func171, by kernel_rfl, rfl⟩
theorem fld117_0 : fldOf Try.prog 117 0 = some 0 := by kernel_rfl
theorem fld117_1 : fldOf Try.prog 117 1 = some 1 := by kernel_rfl
theorem fld117_2 : fldOf Try.prog 117 2 = some 2 := by kernel_rfl
theorem one114 : oneOf Try.prog 114 = true := by kernel_rfl
theorem fn168 : IsFn Try.prog 168 := ⟨_, Try.func168, by kernel_rfl, rfl⟩
theorem fld117_3 : fldOf Try.prog 117 3 = some 3 := by kernel_rfl
theorem one115 : oneOf Try.prog 115 = true := by kernel_rfl
theorem fn169 : IsFn Try.prog 169 := ⟨_, Try.func169, by kernel_rfl, rfl⟩
theorem fld112_2 : fldOf Try.prog 112 2 = some 2 := by kernel_rfl
theorem one109 : oneOf Try.prog 109 = true := by kernel_rfl
theorem fn160 : IsFn Try.prog 160 := ⟨_, Try.func160, by kernel_rfl, rfl⟩
theorem fld112_3 : fldOf Try.prog 112 3 = some 3 := by kernel_rfl
theorem one110 : oneOf Try.prog 110 = true := by kernel_rfl
theorem fn161 : IsFn Try.prog 161 := ⟨_, Try.func161, by kernel_rfl, rfl⟩
theorem zero117 : zeroOf Try.prog 117 = some [.int .i64 0, .int .i64 0, .slice none 0 0, .slice none 0 0] := by kernel_rfl
theorem fld112_0 : fldOf Try.prog 112 0 = some 0 := by kernel_rfl
theorem fld112_1 : fldOf Try.prog 112 1 = some 1 := by kernel_rfl
theorem fn164 : IsFn Try.prog 164 := ⟨_, Try.func164, by kernel_rfl, rfl⟩
theorem fn165 : IsFn Try.prog 165 := ⟨_, Try.func165, by kernel_rfl, rfl⟩
theorem agg117 : aggOf Try.prog 117 = some 4 := by kernel_rfl
theorem fn172 : IsFn Try.prog 172 := ⟨_, Try.func172, by kernel_rfl, rfl⟩
theorem fn173 : IsFn Try.prog 173 := ⟨_, Try.func173, by kernel_rfl, rfl⟩
theorem eqENode_spec (w : World) (t1 t2 : T_ENode) (h1 : GT.rd w [] t1) (h2 : GT.rd w [] t2) : Spec Try.prog 79 [.agg (GT.cells t1).toArray, .agg (GT.cells t2).toArray].toArray w [] (IsV (.bool (eqB (GT.dat t1) (GT.dat t2)))) := by
  obtain ⟨a1, a2, a3, a4⟩ := t1
  obtain ⟨b1, b2, b3, b4⟩ := t2
  change Spec _ _ [Value.agg #[.int .i64 a1, .int .i64 a2, a3.hdr, a4.hdr], Value.agg #[.int .i64 b1, .int .i64 b2, b3.hdr, b4.hdr]].toArray w [] _
  refine Spec.intro Try.func79 rfl Try.ntmps79 rfl ?_
  refine W_seq ?_
  refine W_region ?_
  refine L_box rfl rfl (fun bk2 => ?_)
  refine L_box rfl rfl (fun bk3 => ?_)
  refine L_assign rfl rfl ?_
  refine L_nil ?_
  refine W_seq ?_
  refine W_seq ?_
  refine W_region ?_
  refine L_fieldAddr rfl rfl fld117_0 ?_
  refine L_load rfl rfl (by first | exact RdC.blk (by repeat (first | exact List.Mem.head _ | apply List.Mem.tail))) one3 rfl ?_
  refine L_fieldAddr rfl rfl fld117_0 ?_
  refine L_load rfl rfl (by first | exact RdC.blk (by repeat (first | exact List.Mem.head _ | apply List.Mem.tail))) one3 rfl ?_
  refine L_binV rfl rfl rfl bv_neq ?_
  refine L_nil ?_
  refine W_weaken (l' := [(2, _), (3, _), (9, _)]) (Sub.cons rfl (Sub.cons rfl (Sub.cons rfl (Sub.nil _)))) (MSub.refl _) ?_
  refine W_cond rfl (fun hc1 => ?_) (fun hc1 => ?_)
  · skip
    refine W_seq ?_
    refine W_region ?_
    refine L_assign rfl rfl ?_
    refine L_nil ?_
    refine W_ret ?_
    -- return 1 (R2)
    refine res1 rfl (ResOK.tmp rfl) ⟨?_, rfl⟩ (MSub.nil _)
    clear h1 h2
    first
      | (refine congrArg Value.bool (Eq.symm (eqB_false.2 fun e => ?_)); try simp only [dat_pair, dat_int, dat_bool, dat_str, Prod.mk.injEq] at e; simp_all; done)
      | (refine congrArg Value.bool (Eq.symm (eqB_true.2 ?_)); try simp only [dat_pair, dat_int, dat_bool, dat_str, Prod.mk.injEq]; simp_all; done)
  · skip
    refine W_skip ?_
    refine W_seq ?_
    refine W_seq ?_
    refine W_region ?_
    refine L_fieldAddr rfl rfl fld117_1 ?_
    refine L_load rfl rfl (by first | exact RdC.blk (by repeat (first | exact List.Mem.head _ | apply List.Mem.tail))) one3 rfl ?_
    refine L_fieldAddr rfl rfl fld117_1 ?_
    refine L_load rfl rfl (by first | exact RdC.blk (by repeat (first | exact List.Mem.head _ | apply List.Mem.tail))) one3 rfl ?_
    refine L_binV rfl rfl rfl bv_neq ?_
    refine L_nil ?_
    refine W_weaken (l' := [(2, _), (3, _), (14, _)]) (Sub.cons rfl (Sub.cons rfl (Sub.cons rfl (Sub.nil _)))) (MSub.refl _) ?_
    refine W_cond rfl (fun hc3 => ?_) (fun hc3 => ?_)
    · skip
      refine W_seq ?_
      refine W_region ?_
      refine L_assign rfl rfl ?_
      refine L_nil ?_
      refine W_ret ?_
      -- return 2 (R4)
      refine res1 rfl (ResOK.tmp rfl) ⟨?_, rfl⟩ (MSub.nil _)
      clear h1 h2
      first
        | (refine congrArg Value.bool (Eq.symm (eqB_false.2 fun e => ?_)); try simp only [dat_pair, dat_int, dat_bool, dat_str, Prod.mk.injEq] at e; simp_all; done)
        | (refine congrArg Value.bool (Eq.symm (eqB_true.2 ?_)); try simp only [dat_pair, dat_int, dat_bool, dat_str, Prod.mk.injEq]; simp_all; done)
    · skip
      refine W_skip ?_
      refine W_seq ?_
      refine W_seq ?_
      refine W_region ?_
      refine L_fieldAddr rfl rfl fld117_2 ?_
      refine L_load rfl rfl (by first | exact RdC.blk (by repeat (first | exact List.Mem.head _ | apply List.Mem.tail))) one114 rfl ?_
      refine L_fieldAddr rfl rfl fld117_2 ?_
      refine L_load rfl rfl (by first | exact RdC.blk (by repeat (first | exact List.Mem.head _ | apply List.Mem.tail))) one114 rfl ?_
      refine L_callX rfl fn168 rfl (by exact fun w hw => eqInstS_spec w _ _ (rd_carry (h1.2.2.1) hw) (rd_carry (h2.2.2.1) hw)) ?_
      refine L_not rfl rfl ?_
      refine L_nil ?_
      refine W_weaken (l' := [(2, _), (3, _), (20, _)]) (Sub.cons rfl (Sub.cons rfl (Sub.cons rfl (Sub.nil _)))) (MSub.refl _) ?_
      refine W_cond rfl (fun hc5 => ?_) (fun hc5 => ?_)
      · skip
        refine W_seq ?_
        refine W_region ?_
        refine L_assign rfl rfl ?_
        refine L_nil ?_
        refine W_ret ?_
        -- return 3 (R6)
        refine res1 rfl (ResOK.tmp rfl) ⟨?_, rfl⟩ (MSub.nil _)
        clear h1 h2
        first
          | (refine congrArg Value.bool (Eq.symm (eqB_false.2 fun e => ?_)); try simp only [dat_pair, dat_int, dat_bool, dat_str, Prod.mk.injEq] at e; simp_all; done)
          | (refine congrArg Value.bool (Eq.symm (eqB_true.2 ?_)); try simp only [dat_pair, dat_int, dat_bool, dat_str, Prod.mk.injEq]; simp_all; done)
      · skip
        refine W_skip ?_
        refine W_seq ?_
        refine W_seq ?_
        refine W_region ?_
        refine L_fieldAddr rfl rfl fld117_3 ?_
        refine L_load rfl rfl (by first | exact RdC.blk (by repeat (first | exact List.Mem.head _ | apply List.Mem.tail))) one115 rfl ?_
        refine L_fieldAddr rfl rfl fld117_3 ?_
        refine L_load rfl rfl (by first | exact RdC.blk (by repeat (first | exact List.Mem.head _ | apply List.Mem.tail))) one115 rfl ?_
        refine L_callX rfl fn169 rfl (by exact fun w hw => eqLeadS_spec w _ _ (rd_carry (h1.2.2.2) hw) (rd_carry (h2.2.2.2) hw)) ?_
        refine L_not rfl rfl ?_
        refine L_nil ?_
        refine W_weaken (l' := [(26, _)]) (Sub.cons rfl (Sub.nil _)) (MSub.refl _) ?_
        refine W_cond rfl (fun hc7 => ?_) (fun hc7 => ?_)
        · skip
          refine W_seq ?_
          refine W_region ?_
          refine L_assign rfl rfl ?_
          refine L_nil ?_
          refine W_ret ?_
          -- return 4 (R8)
          refine res1 rfl (ResOK.tmp rfl) ⟨?_, rfl⟩ (MSub.nil _)
          clear h1 h2
          first
            | (refine congrArg Value.bool (Eq.symm (eqB_false.2 fun e => ?_)); try simp only [dat_pair, dat_int, dat_bool, dat_str, Prod.mk.injEq] at e; simp_all; done)
            | (refine congrArg Value.bool (Eq.symm (eqB_true.2 ?_)); try simp only [dat_pair, dat_int, dat_bool, dat_str, Prod.mk.injEq]; simp_all; done)
        · skip
          refine W_skip ?_
          refine W_seq ?_
          refine W_region ?_
          refine L_assign rfl rfl ?_
          refine L_nil ?_
          refine W_ret ?_
          -- return 5 (R9)
          refine res1 rfl (ResOK.tmp rfl) ⟨?_, rfl⟩ (MSub.nil _)
          clear h1 h2
          first
            | (refine congrArg Value.bool (Eq.symm (eqB_false.2 fun e => ?_)); try simp only [dat_pair, dat_int, dat_bool, dat_str, Prod.mk.injEq] at e; simp_all; done)
            | (refine congrArg Value.bool (Eq.symm (eqB_true.2 ?_)); try simp only [dat_pair, dat_int, dat_bool, dat_str, Prod.mk.injEq]; simp_all; done)

theorem szENode_spec (w : World) (t1 : T_ENode) (left : Int) (hl : 0 ≤ left) (hm : left ≤ 1048576) (h1 : GT.rd w [] t1) (ho : Ok.ok (GT.dat t1)) : Spec Try.prog 75 [.agg (GT.cells t1).toArray, .int .i64 left].toArray w [] (IsV (.int .i64 (if (Bk.bulk t1 : Int) ≤ left then left - (Bk.bulk t1 : Int) else -1))) := by
  obtain ⟨a1, a2, a3, a4⟩ := t1
  change Spec _ _ [Value.agg #[.int .i64 a1, .int .i64 a2, a3.hdr, a4.hdr], .int .i64 left].toArray w [] _
  refine Spec.intro Try.func75 rfl Try.ntmps75 rfl ?_
  refine W_seq ?_
  refine W_region ?_
  refine L_box rfl rfl (fun bk2 => ?_)
  refine L_assign rfl rfl ?_
  refine L_nil ?_
  refine W_seq ?_
  refine W_region ?_
  refine L_fieldAddr rfl rfl fld112_2 ?_
  refine L_load rfl rfl (by first | exact RdC.blk (by repeat (first | exact List.Mem.head _ | apply List.Mem.tail))) one109 rfl ?_
  refine L_move rfl rfl ?_
  refine L_callX rfl fn160 rfl (by exact fun w hw => szInstS_spec w _ (left) (by omega) (by omega) (rd_carry (h1.2.2.1) hw) ho.2.2.1) ?_
  refine L_assign rfl rfl ?_
  refine L_nil ?_
  refine W_seq ?_
  refine W_seq ?_
  refine W_region ?_
  refine L_move rfl rfl ?_
  refine L_binV rfl rfl rfl bv_lss ?_
  refine L_nil ?_
  refine W_weaken (l' := [(1, _), (2, _), (10, _)]) (Sub.cons rfl (Sub.cons rfl (Sub.cons rfl (Sub.nil _)))) (MSub.refl _) ?_
  refine W_cond rfl (fun hc2 => ?_) (fun hc2 => ?_)
  · skip
    have hb2 : ¬ ((Bk.bulk a3 : Int) ≤ left) := by
      intro hn
      rw [if_pos hn] at hc2; simp at hc2; omega
    refine W_seq ?_
    refine W_region ?_
    refine L_assign rfl rfl ?_
    refine L_nil ?_
    refine W_ret ?_
    -- return 1 (R3)
    refine res1 rfl (ResOK.tmp rfl) ⟨?_, rfl⟩ (MSub.nil _)
    try simp only [bulk_pair, bulk_int, bulk_bool, bulk_str, Int.natCast_add, Int.natCast_zero] at *
    all_goals first
      | rfl
      | (rw [if_pos (by omega)] <;> (congr 1 <;> omega))
      | (rw [if_neg (by omega)])
  · skip
    have hb2 : (Bk.bulk a3 : Int) ≤ left := by
      rcases Int.decLt (left) (Bk.bulk a3 : Int) with hn | hn
      · omega
      · rw [if_neg (by omega)] at hc2; simp at hc2
    rw [if_pos hb2]
    refine W_skip ?_
    refine W_seq ?_
    refine W_region ?_
    refine L_fieldAddr rfl rfl fld112_3 ?_
    refine L_load rfl rfl (by first | exact RdC.blk (by repeat (first | exact List.Mem.head _ | apply List.Mem.tail))) one110 rfl ?_
    refine L_move rfl rfl ?_
    refine L_callX rfl fn161 rfl (by exact fun w hw => szLeadS_spec w _ (left - (Bk.bulk a3 : Int)) (by omega) (by omega) (rd_carry (h1.2.2.2) hw) ho.2.2.2) ?_
    refine L_assign rfl rfl ?_
    refine L_nil ?_
    refine W_seq ?_
    refine W_seq ?_
    refine W_region ?_
    refine L_move rfl rfl ?_
    refine L_binV rfl rfl rfl bv_lss ?_
    refine L_nil ?_
    refine W_weaken (l' := [(1, _), (16, _)]) (Sub.cons rfl (Sub.cons rfl (Sub.nil _))) (MSub.refl _) ?_
    refine W_cond rfl (fun hc5 => ?_) (fun hc5 => ?_)
    · skip
      have hb3 : ¬ ((Bk.bulk a4 : Int) ≤ left - (Bk.bulk a3 : Int)) := by
        intro hn
        rw [if_pos hn] at hc5; simp at hc5; omega
      refine W_seq ?_
      refine W_region ?_
      refine L_assign rfl rfl ?_
      refine L_nil ?_
      refine W_ret ?_
      -- return 2 (R6)
      refine res1 rfl (ResOK.tmp rfl) ⟨?_, rfl⟩ (MSub.nil _)
      try simp only [bulk_pair, bulk_int, bulk_bool, bulk_str, Int.natCast_add, Int.natCast_zero] at *
      all_goals first
        | rfl
        | (rw [if_pos (by omega)] <;> (congr 1 <;> omega))
        | (rw [if_neg (by omega)])
    · skip
      have hb3 : (Bk.bulk a4 : Int) ≤ left - (Bk.bulk a3 : Int) := by
        rcases Int.decLt (left - (Bk.bulk a3 : Int)) (Bk.bulk a4 : Int) with hn | hn
        · omega
        · rw [if_neg (by omega)] at hc5; simp at hc5
      rw [if_pos hb3]
      refine W_skip ?_
      refine W_seq ?_
      refine W_region ?_
      refine L_move rfl rfl ?_
      refine L_assign rfl rfl ?_
      refine L_nil ?_
      refine W_ret ?_
      -- return 3 (R7)
      refine res1 rfl (ResOK.tmp rfl) ⟨?_, rfl⟩ (MSub.nil _)
      try simp only [bulk_pair, bulk_int, bulk_bool, bulk_str, Int.natCast_add, Int.natCast_zero] at *
      all_goals first
        | rfl
        | (rw [if_pos (by omega)] <;> (congr 1 <;> omega))
        | (rw [if_neg (by omega)])

theorem toENode_spec (w : World) (t1 : T_ENode) (h1 : GT.rd w [] t1) (hb : Bk.bulk t1 ≤ 1048576) : Spec Try.prog 77 [.agg (GT.cells t1).toArray].toArray w [] (fun v M => ∃ t2 : T_ENode, v = .agg (GT.cells t2).toArray ∧ GT.dat t2 = GT.dat t1 ∧ M = [treeH t2]) := by
  obtain ⟨a1, a2, a3, a4⟩ := t1
  have hbk_2 : Bk.bulk a3 ≤ 1048576 := by (try simp only [bulk_pair, bulk_int, bulk_bool, bulk_str] at hb ⊢); omega
  have hbk_3 : Bk.bulk a4 ≤ 1048576 := by (try simp only [bulk_pair, bulk_int, bulk_bool, bulk_str] at hb ⊢); omega
  change Spec _ _ [Value.agg #[.int .i64 a1, .int .i64 a2, a3.hdr, a4.hdr]].toArray w [] _
  refine Spec.intro Try.func77 rfl Try.ntmps77 rfl ?_
  refine W_seq ?_
  refine W_region ?_
  refine L_box rfl rfl (fun bk1 => ?_)
  refine L_alloc rfl zero117 (fun bk2 => ?_)
  refine L_nil ?_
  refine W_seq ?_
  refine W_region ?_
  refine L_alloc rfl zero117 (fun bk3 => ?_)
  refine L_nil ?_
  refine W_seq ?_
  refine W_region ?_
  refine L_fieldAddr rfl rfl fld112_0 ?_
  refine L_load rfl rfl (by first | exact RdC.blk (by repeat (first | exact List.Mem.head _ | apply List.Mem.tail))) one3 rfl ?_
  refine L_fieldAddr rfl rfl fld117_0 ?_
  refine L_store rfl rfl (by repeat (first | exact Pick.here _ | apply Pick.there)) one3 rfl rfl ?_
  refine L_nil ?_
  refine W_seq ?_
  refine W_region ?_
  refine L_fieldAddr rfl rfl fld112_1 ?_
  refine L_load rfl rfl (by first | exact RdC.blk (by repeat (first | exact List.Mem.head _ | apply List.Mem.tail))) one3 rfl ?_
  refine L_fieldAddr rfl rfl fld117_1 ?_
  refine L_store rfl rfl (by repeat (first | exact Pick.here _ | apply Pick.there)) one3 rfl rfl ?_
  refine L_nil ?_
  refine W_seq ?_
  refine W_region ?_
  refine L_fieldAddr rfl rfl fld112_2 ?_
  refine L_load rfl rfl (by first | exact RdC.blk (by repeat (first | exact List.Mem.head _ | apply List.Mem.tail))) one109 rfl ?_
  refine L_callR rfl fn164 rfl (by exact fun w hw => toInstS_spec w _ (rd_carry (h1.2.2.1) hw) hbk_2) ?_
  rintro v M1 ⟨n3t, hv, hd2, rfl⟩
  subst hv
  simp only [List.cons_append, List.nil_append]
  refine L_fieldAddr rfl rfl fld117_2 ?_
  refine L_store rfl rfl (by repeat (first | exact Pick.here _ | apply Pick.there)) one114 rfl rfl ?_
  refine L_nil ?_
  refine W_seq ?_
  refine W_region ?_
  refine L_fieldAddr rfl rfl fld112_3 ?_
  refine L_load rfl rfl (by first | exact RdC.blk (by repeat (first | exact List.Mem.head _ | apply List.Mem.tail))) one110 rfl ?_
  refine L_callR rfl fn165 rfl (by exact fun w hw => toLeadS_spec w _ (rd_carry (h1.2.2.2) hw) hbk_3) ?_
  rintro v M1 ⟨n4t, hv, hd3, rfl⟩
  subst hv
  simp only [List.cons_append, List.nil_append]
  refine L_fieldAddr rfl rfl fld117_3 ?_
  refine L_store rfl rfl (by repeat (first | exact Pick.here _ | apply Pick.there)) one115 rfl rfl ?_
  refine L_nil ?_
  refine W_seq ?_
  refine W_region ?_
  refine L_loadW rfl rfl (by first | exact RdC.blk (by repeat (first | exact List.Mem.head _ | apply List.Mem.tail))) (by exact agg117) ?_
  refine L_storeW rfl rfl (by repeat (first | exact Pick.here _ | apply Pick.there)) (by exact agg117) (by rfl) (by first | (simp [Value.oneCell', TL.hdr]; done) | (simp [Value.oneCell', TL.hdr, Value.cells]; done) | exact fun v hv => GT.one _ v hv) ?_
  refine L_nil ?_
  refine W_conv (M' := treeH n4t :: _) (fun w h => frontPick (by repeat (first | exact Pick.here _ | apply Pick.there)) h) ?_
  refine W_conv (M' := treeH (n3t, n4t) :: _) (fun w h => pairPick (by repeat (first | exact Pick.here _ | apply Pick.there)) h) ?_
  refine W_conv (M' := treeH (a2, n3t, n4t) :: _) (fun w h => tree_snd (flat_int (h1.2.1)) h) ?_
  refine W_conv (M' := treeH (a1, a2, n3t, n4t) :: _) (fun w h => tree_snd (flat_int (h1.1)) h) ?_
  refine W_ret ?_
  -- return 1 (R6)
  refine res1 rfl (ResOK.cell rfl (by repeat (first | exact List.Mem.head _ | apply List.Mem.tail)) (by exact agg117)) ⟨(a1, a2, n3t, n4t), rfl, by simp only [dat_pair, hd2, hd3], rfl⟩ (MSub.cons (by repeat (first | exact Pick.here _ | apply Pick.there)) (MSub.nil _))

theorem markENode_spec (w : World) (t1 : T_ENode) (k0 : Nat) (hk0 : 0 < k0) (hb : k0 + Mv.cnt t1 < 9223372036854775807) : Spec Try.prog 80 [.agg (GT.cells t1).toArray, .int .i64 (k0 : Int)].toArray w [treeH t1] (fun v M => v = .int .i64 ((k0 + Mv.cnt t1 : Nat) : Int) ∧ M = [treeH (Mv.mkd k0 t1)]) := by
  obtain ⟨a1, a2, a3, a4⟩ := t1
  simp only [mv_cnt_pair, mv_cnt_int, mv_cnt_bool, mv_cnt_str, mv_cnt_TL, mv_pair, mv_int, mv_bool, mv_str, mv_TL, Nat.zero_add, Nat.add_zero, ← Nat.add_assoc] at hb ⊢
  change Spec _ _ [Value.agg #[.int .i64 a1, .int .i64 a2, a3.hdr, a4.hdr], .int .i64 (k0 : Int)].toArray w _ _
  refine Spec.intro Try.func80 rfl Try.ntmps80 rfl ?_
  refine W_seq ?_
  refine W_region ?_
  refine L_box rfl rfl (fun bk2 => ?_)
  refine L_assign rfl rfl ?_
  refine L_nil ?_
  refine W_seq ?_
  refine W_region ?_
  refine L_fieldAddr rfl rfl fld117_2 ?_
  refine L_load rfl rfl (by first | exact RdC.blk (by repeat (first | exact List.Mem.head _ | apply List.Mem.tail))) one114 rfl ?_
  refine L_move rfl rfl ?_
  refine L_conv (fun w h => show Holds _ _ _ w from (tree_pair (frontPick (Pick.there _ (Pick.here _)) (tree_pair (frontPick (Pick.there _ (Pick.here _)) (tree_pair (frontPick (x := treeH ((a1, a2, a3, a4) : T_ENode)) (by repeat (first | exact Pick.here _ | apply Pick.there)) h))))))) ?_
  refine L_call1 rfl fn170 rfl (Pick.here _) (by exact fun w hw => markInstS_spec w a3 (k0) (by omega) (by omega)) ?_
  rintro v M1 ⟨hv, rfl⟩
  subst hv
  simp only [List.cons_append, List.nil_append]
  refine L_conv (M' := treeH ((a1, a2, (Mk.mkd k0 a3), a4) : T_ENode) :: _) (fun w h => (pairPick (Pick.here _) (pairPick (Pick.here _) (pairFront (Pick.here _) h)))) ?_
  refine L_assign rfl rfl ?_
  refine L_nil ?_
  refine W_seq ?_
  refine W_region ?_
  refine L_fieldAddr rfl rfl fld117_3 ?_
  refine L_load rfl rfl (by first | exact RdC.blk (by repeat (first | exact List.Mem.head _ | apply List.Mem.tail))) one115 rfl ?_
  refine L_move rfl rfl ?_
  refine L_conv (fun w h => show Holds _ _ _ w from (frontPick (Pick.there _ (Pick.here _)) (tree_pair (frontPick (Pick.there _ (Pick.here _)) (tree_pair (frontPick (Pick.there _ (Pick.here _)) (tree_pair (frontPick (x := treeH ((a1, a2, (Mk.mkd k0 a3), a4) : T_ENode)) (by repeat (first | exact Pick.here _ | apply Pick.there)) h)))))))) ?_
  refine L_call1 rfl fn171 rfl (Pick.here _) (by exact fun w hw => markLeadS_spec w a4 (k0 + Mk.cnt a3) (by omega) (by omega)) ?_
  rintro v M1 ⟨hv, rfl⟩
  subst hv
  simp only [List.cons_append, List.nil_append]
  refine L_conv (M' := treeH ((a1, a2, (Mk.mkd k0 a3), (Mk.mkd (k0 + Mk.cnt a3) a4)) : T_ENode) :: _) (fun w h => (pairPick (Pick.here _) (pairPick (Pick.here _) (pairPick (Pick.here _) h)))) ?_
  refine L_assign rfl rfl ?_
  refine L_nil ?_
  refine W_seq ?_
  refine W_region ?_
  refine L_move rfl rfl ?_
  refine L_assign rfl rfl ?_
  refine L_nil ?_
  refine W_ret ?_
  -- return 1 (R3)
  refine res1 rfl (ResOK.tmp rfl) ⟨rfl, rfl⟩ (MSub.cons (by repeat (first | exact Pick.here _ | apply Pick.there)) (MSub.nil _))

theorem heldENode_spec (w : World) (t1 : T_ENode) (k0 : Nat) (hk0 : 0 < k0) (hb : k0 + Mv.cnt t1 < 9223372036854775807) (h1 : GT.rd w [] (Mv.mkd k0 t1)) : Spec Try.prog 81 [.agg (GT.cells (Mv.mkd k0 t1)).toArray, .int .i64 (k0 : Int)].toArray w [] (IsV (.int .i64 ((k0 + Mv.cnt t1 : Nat) : Int))) := by
  obtain ⟨a1, a2, a3, a4⟩ := t1
  simp only [mv_cnt_pair, mv_cnt_int, mv_cnt_bool, mv_cnt_str, mv_cnt_TL, mv_pair, mv_int, mv_bool, mv_str, mv_TL, Nat.zero_add, Nat.add_zero, ← Nat.add_assoc] at hb h1 ⊢
  refine Spec.intro Try.func81 rfl Try.ntmps81 rfl ?_
  refine W_seq ?_
  refine W_region ?_
  refine L_box rfl rfl (fun bk2 => ?_)
  refine L_assign rfl rfl ?_
  refine L_nil ?_
  refine W_seq ?_
  refine W_region ?_
  refine L_fieldAddr rfl rfl fld117_2 ?_
  refine L_load rfl rfl (by first | exact RdC.blk (by repeat (first | exact List.Mem.head _ | apply List.Mem.tail))) one114 rfl ?_
  refine L_move rfl rfl ?_
  refine L_callX rfl fn172 rfl (by exact fun w hw => heldInstS_spec w a3 (k0) (by omega) (by omega) (rd_carry h1.2.2.1 hw)) ?_
  refine L_assign rfl rfl ?_
  refine L_nil ?_
  refine W_seq ?_
  refine W_seq ?_
  refine W_region ?_
  refine L_move rfl rfl ?_
  refine L_binV rfl rfl rfl bv_lss ?_
  refine L_nil ?_
  refine W_weaken (l' := [(1, _), (2, _), (10, _)]) (Sub.cons rfl (Sub.cons rfl (Sub.cons rfl (Sub.nil _)))) (MSub.refl _) ?_
  refine W_cond rfl (fun hc2 => ?_) (fun hc2 => ?_)
  · skip
    refine W_seq ?_
    refine W_region ?_
    refine L_assign rfl rfl ?_
    refine L_nil ?_
    refine W_ret ?_
    -- return 1 (R3)
    refine res1 rfl (ResOK.tmp rfl) ⟨?_, rfl⟩ (MSub.nil _)
    exfalso; simp at hc2; omega
  · skip
    refine W_skip ?_
    refine W_seq ?_
    refine W_region ?_
    refine L_fieldAddr rfl rfl fld117_3 ?_
    refine L_load rfl rfl (by first | exact RdC.blk (by repeat (first | exact List.Mem.head _ | apply List.Mem.tail))) one115 rfl ?_
    refine L_move rfl rfl ?_
    refine L_callX rfl fn173 rfl (by exact fun w hw => heldLeadS_spec w a4 (k0 + Mk.cnt a3) (by omega) (by omega) (rd_carry h1.2.2.2 hw)) ?_
    refine L_assign rfl rfl ?_
    refine L_nil ?_
    refine W_seq ?_
    refine W_seq ?_
    refine W_region ?_
    refine L_move rfl rfl ?_
    refine L_binV rfl rfl rfl bv_lss ?_
    refine L_nil ?_
    refine W_weaken (l' := [(1, _), (16, _)]) (Sub.cons rfl (Sub.cons rfl (Sub.nil _))) (MSub.refl _) ?_
    refine W_cond rfl (fun hc5 => ?_) (fun hc5 => ?_)
    · skip
      refine W_seq ?_
      refine W_region ?_
      refine L_assign rfl rfl ?_
      refine L_nil ?_
      refine W_ret ?_
      -- return 2 (R6)
      refine res1 rfl (ResOK.tmp rfl) ⟨?_, rfl⟩ (MSub.nil _)
      exfalso; simp at hc5; omega
    · skip
      refine W_skip ?_
      refine W_seq ?_
      refine W_region ?_
      refine L_move rfl rfl ?_
      refine L_assign rfl rfl ?_
      refine L_nil ?_
      refine W_ret ?_
      -- return 3 (R7)
      refine res1 rfl (ResOK.tmp rfl) ⟨?_, rfl⟩ (MSub.nil _)
      rfl

end Go.Proofs.SL
