/- The families of the exact laws over the types that they are given: equality, size, copy, marks. -/
import Derived.Test.YthebgoognabinaaGreatFN
import Derived.Test.YthebgoognabinaaGreatRows
namespace Go.Proofs.SL
open Go
abbrev T_Up := ByteArray × (TL Int) × Int
abbrev T_Ups := Int × (TL T_Up)
theorem el37 : elOf Tryz.prog 37 = some (88, 3, 48, [.string ByteArray.empty, .slice none 0 0, .int .i64 0]) := by kernel_rfl
theorem agg88 : aggOf Tryz.prog 88 = some 3 := by kernel_rfl
theorem one9 : oneOf Tryz.prog 9 = true := by kernel_rfl
theorem fn62 : IsFn Tryz.prog 62 := ⟨_, Tryz.func62, by kernel_rfl, rfl⟩
theorem fn39 : IsFn Tryz.prog 39 := ⟨_, Tryz.func39, by kernel_rfl, rfl⟩
theorem fld88_0 : fldOf Tryz.prog 88 0 = some 0 := by kernel_rfl
theorem fld88_1 : fldOf Tryz.prog 88 1 = some 1 := by kernel_rfl
theorem one57 : oneOf Tryz.prog 57 = true := by kernel_rfl
theorem fn76 : IsFn Tryz.prog 76 := ⟨_, Tryz.func76, by kernel_rfl, rfl⟩
theorem fld88_2 : fldOf Tryz.prog 88 2 = some 2 := by kernel_rfl
theorem fld78_0 : fldOf Tryz.prog 78 0 = some 0 := by kernel_rfl
theorem str9 : isStr Tryz.prog 9 = true := by kernel_rfl
theorem fld78_1 : fldOf Tryz.prog 78 1 = some 1 := by kernel_rfl
theorem fn64 : IsFn Tryz.prog 64 := ⟨_, Tryz.func64, by kernel_rfl, rfl⟩
theorem zero88 : zeroOf Tryz.prog 88 = some [.string ByteArray.empty, .slice none 0 0, .int .i64 0] := by kernel_rfl
theorem fn67 : IsFn Tryz.prog 67 := ⟨_, Tryz.func67, by kernel_rfl, rfl⟩
theorem fld78_2 : fldOf Tryz.prog 78 2 = some 2 := by kernel_rfl
theorem fn60 : IsFn Tryz.prog 60 := ⟨_, Tryz.func60, by kernel_rfl, rfl⟩
theorem el25 : elOf Tryz.prog 25 = some (78, 3, 48, [.string ByteArray.empty, .slice none 0 0, .int .i64 0]) := by kernel_rfl
theorem agg78 : aggOf Tryz.prog 78 = some 3 := by kernel_rfl
theorem fn42 : IsFn Tryz.prog 42 := ⟨_, Tryz.func42, by kernel_rfl, rfl⟩
theorem fn51 : IsFn Tryz.prog 51 := ⟨_, Tryz.func51, by kernel_rfl, rfl⟩
theorem fld39_0 : fldOf Tryz.prog 39 0 = some 0 := by kernel_rfl
theorem fld39_1 : fldOf Tryz.prog 39 1 = some 1 := by kernel_rfl
theorem one37 : oneOf Tryz.prog 37 = true := by kernel_rfl
theorem fn37 : IsFn Tryz.prog 37 := ⟨_, Tryz.func37, by kernel_rfl, rfl⟩
theorem fld27_1 : fldOf Tryz.prog 27 1 = some 1 := by kernel_rfl
theorem one25 : oneOf Tryz.prog 25 = true := by kernel_rfl
theorem fn21 : IsFn Tryz.prog 21 := ⟨_, Tryz.func21, by kernel_rfl, rfl⟩
theorem zero39 : zeroOf Tryz.prog 39 = some [.int .i64 0, .slice none 0 0] := by kernel_rfl
theorem fld27_0 : fldOf Tryz.prog 27 0 = some 0 := by kernel_rfl
theorem fn28 : IsFn Tryz.prog 28 := ⟨_, Tryz.func28, by kernel_rfl, rfl⟩
theorem agg39 : aggOf Tryz.prog 39 = some 2 := by kernel_rfl
theorem fn40 : IsFn Tryz.prog 40 := ⟨_, Tryz.func40, by kernel_rfl, rfl⟩
theorem eqUp_spec (w : World) (t1 t2 : T_Up) (h1 : GT.rd w [] t1) (h2 : GT.rd w [] t2) : Spec Tryz.prog 60 [.agg (GT.cells t1).toArray, .agg (GT.cells t2).toArray].toArray w [] (IsV (.bool (eqB (GT.dat t1) (GT.dat t2)))) := by
  obtain ⟨a1, a2, a3⟩ := t1
  obtain ⟨b1, b2, b3⟩ := t2
  change Spec _ _ [Value.agg #[.string a1, a2.hdr, .int .i64 a3], Value.agg #[.string b1, b2.hdr, .int .i64 b3]].toArray w [] _
  refine Spec.intro Tryz.func60 rfl Tryz.ntmps60 rfl ?_
  refine W_seq ?_
  refine W_region ?_
  refine L_box rfl rfl (fun bk2 => ?_)
  refine L_box rfl rfl (fun bk3 => ?_)
  refine L_assign rfl rfl ?_
  refine L_nil ?_
  refine W_seq ?_
  refine W_seq ?_
  refine W_region ?_
  refine L_fieldAddr rfl rfl fld88_0 ?_
  refine L_load rfl rfl (by first | exact RdC.blk (by repeat (first | exact List.Mem.head _ | apply List.Mem.tail))) one9 rfl ?_
  refine L_fieldAddr rfl rfl fld88_0 ?_
  refine L_load rfl rfl (by first | exact RdC.blk (by repeat (first | exact List.Mem.head _ | apply List.Mem.tail))) one9 rfl ?_
  refine L_binV rfl rfl rfl bv_sneq ?_
  refine L_nil ?_
  refine W_weaken (l' := [(2, _), (3, _), (9, _)]) (Sub.cons rfl (Sub.cons rfl (Sub.cons rfl (Sub.nil _)))) (MSub.refl _) ?_
  refine W_cond rfl (fun hc1 => ?_) (fun hc1 => ?_)
  · skip
    refine W_seq ?_
    refine W_region ?_
    refine L_assign rfl rfl ?_
    refine L_nil ?_
    refine W_ret ?_
    -- return 1 (R2)
    refine res1 rfl (ResOK.tmp rfl) ⟨?_, rfl⟩ (MSub.nil _)
    clear h1 h2
    first
      | (refine congrArg Value.bool (Eq.symm (eqB_false.2 fun e => ?_)); try simp only [dat_pair, dat_int, dat_bool, dat_str, Prod.mk.injEq] at e; simp_all; done)
      | (refine congrArg Value.bool (Eq.symm (eqB_true.2 ?_)); try simp only [dat_pair, dat_int, dat_bool, dat_str, Prod.mk.injEq]; simp_all; done)
  · skip
    refine W_skip ?_
    refine W_seq ?_
    refine W_seq ?_
    refine W_region ?_
    refine L_fieldAddr rfl rfl fld88_1 ?_
    refine L_load rfl rfl (by first | exact RdC.blk (by repeat (first | exact List.Mem.head _ | apply List.Mem.tail))) one57 rfl ?_
    refine L_fieldAddr rfl rfl fld88_1 ?_
    refine L_load rfl rfl (by first | exact RdC.blk (by repeat (first | exact List.Mem.head _ | apply List.Mem.tail))) one57 rfl ?_
    refine L_callX rfl fn76 rfl (by exact fun w hw => eqIntS_spec w _ _ (rd_carry (h1.2.1) hw) (rd_carry (h2.2.1) hw)) ?_
    refine L_not rfl rfl ?_
    refine L_nil ?_
    refine W_weaken (l' := [(2, _), (3, _), (15, _)]) (Sub.cons rfl (Sub.cons rfl (Sub.cons rfl (Sub.nil _)))) (MSub.refl _) ?_
    refine W_cond rfl (fun hc3 => ?_) (fun hc3 => ?_)
    · skip
      refine W_seq ?_
      refine W_region ?_
      refine L_assign rfl rfl ?_
      refine L_nil ?_
      refine W_ret ?_
      -- return 2 (R4)
      refine res1 rfl (ResOK.tmp rfl) ⟨?_, rfl⟩ (MSub.nil _)
      clear h1 h2
      first
        | (refine congrArg Value.bool (Eq.symm (eqB_false.2 fun e => ?_)); try simp only [dat_pair, dat_int, dat_bool, dat_str, Prod.mk.injEq] at e; simp_all; done)
        | (refine congrArg Value.bool (Eq.symm (eqB_true.2 ?_)); try simp only [dat_pair, dat_int, dat_bool, dat_str, Prod.mk.injEq]; simp_all; done)
    · skip
      refine W_skip ?_
      refine W_seq ?_
      refine W_seq ?_
      refine W_region ?_
      refine L_fieldAddr rfl rfl fld88_2 ?_
      refine L_load rfl rfl (by first | exact RdC.blk (by repeat (first | exact List.Mem.head _ | apply List.Mem.tail))) one3 rfl ?_
      refine L_fieldAddr rfl rfl fld88_2 ?_
      refine L_load rfl rfl (by first | exact RdC.blk (by repeat (first | exact List.Mem.head _ | apply List.Mem.tail))) one3 rfl ?_
      refine L_binV rfl rfl rfl bv_neq ?_
      refine L_nil ?_
      refine W_weaken (l' := [(20, _)]) (Sub.cons rfl (Sub.nil _)) (MSub.refl _) ?_
      refine W_cond rfl (fun hc5 => ?_) (fun hc5 => ?_)
      · skip
        refine W_seq ?_
        refine W_region ?_
        refine L_assign rfl rfl ?_
        refine L_nil ?_
        refine W_ret ?_
        -- return 3 (R6)
        refine res1 rfl (ResOK.tmp rfl) ⟨?_, rfl⟩ (MSub.nil _)
        clear h1 h2
        first
          | (refine congrArg Value.bool (Eq.symm (eqB_false.2 fun e => ?_)); try simp only [dat_pair, dat_int, dat_bool, dat_str, Prod.mk.injEq] at e; simp_all; done)
          | (refine congrArg Value.bool (Eq.symm (eqB_true.2 ?_)); try simp only [dat_pair, dat_int, dat_bool, dat_str, Prod.mk.injEq]; simp_all; done)
      · skip
        refine W_skip ?_
        refine W_seq ?_
        refine W_region ?_
        refine L_assign rfl rfl ?_
        refine L_nil ?_
        refine W_ret ?_
        -- return 4 (R7)
        refine res1 rfl (ResOK.tmp rfl) ⟨?_, rfl⟩ (MSub.nil _)
        clear h1 h2
        first
          | (refine congrArg Value.bool (Eq.symm (eqB_false.2 fun e => ?_)); try simp only [dat_pair, dat_int, dat_bool, dat_str, Prod.mk.injEq] at e; simp_all; done)
          | (refine congrArg Value.bool (Eq.symm (eqB_true.2 ?_)); try simp only [dat_pair, dat_int, dat_bool, dat_str, Prod.mk.injEq]; simp_all; done)

theorem szUp_spec (w : World) (t1 : T_Up) (left : Int) (hl : 0 ≤ left) (hm : left ≤ 1048576) (h1 : GT.rd w [] t1) (ho : Ok.ok (GT.dat t1)) : Spec Tryz.prog 42 [.agg (GT.cells t1).toArray, .int .i64 left].toArray w [] (IsV (.int .i64 (if (Bk.bulk t1 : Int) ≤ left then left - (Bk.bulk t1 : Int) else -1))) := by
  obtain ⟨a1, a2, a3⟩ := t1
  have hs0 : a1.size ≤ 9223372036854775807 := ho.1
  change Spec _ _ [Value.agg #[.string a1, a2.hdr, .int .i64 a3], .int .i64 left].toArray w [] _
  refine Spec.intro Tryz.func42 rfl Tryz.ntmps42 rfl ?_
  refine W_seq ?_
  refine W_region ?_
  refine L_box rfl rfl (fun bk2 => ?_)
  refine L_assign rfl rfl ?_
  refine L_nil ?_
  refine W_seq ?_
  refine W_region ?_
  refine L_move rfl rfl ?_
  refine L_fieldAddr rfl rfl fld78_0 ?_
  refine L_load rfl rfl (by first | exact RdC.blk (by repeat (first | exact List.Mem.head _ | apply List.Mem.tail))) one9 rfl ?_
  refine L_lenT rfl rfl str9 ?_
  refine L_binV rfl rfl rfl (bv_subR (by unfold inR; omega)) ?_
  refine L_assign rfl rfl ?_
  refine L_nil ?_
  refine W_seq ?_
  refine W_seq ?_
  refine W_region ?_
  refine L_move rfl rfl ?_
  refine L_binV rfl rfl rfl bv_lss ?_
  refine L_nil ?_
  refine W_weaken (l' := [(1, _), (2, _), (11, _)]) (Sub.cons rfl (Sub.cons rfl (Sub.cons rfl (Sub.nil _)))) (MSub.refl _) ?_
  refine W_cond rfl (fun hc2 => ?_) (fun hc2 => ?_)
  · skip
    have hb0 : left - (a1.size : Int) < 0 := by simpa using hc2
    refine W_seq ?_
    refine W_region ?_
    refine L_assign rfl rfl ?_
    refine L_nil ?_
    refine W_ret ?_
    -- return 1 (R3)
    refine res1 rfl (ResOK.tmp rfl) ⟨?_, rfl⟩ (MSub.nil _)
    try simp only [bulk_pair, bulk_int, bulk_bool, bulk_str, Int.natCast_add, Int.natCast_zero] at *
    all_goals first
      | rfl
      | (rw [if_pos (by omega)] <;> (congr 1 <;> omega))
      | (rw [if_neg (by omega)])
  · skip
    have hb0 : ¬ (left - (a1.size : Int) < 0) := by simpa using hc2
    refine W_skip ?_
    refine W_seq ?_
    refine W_region ?_
    refine L_fieldAddr rfl rfl fld78_1 ?_
    refine L_load rfl rfl (by first | exact RdC.blk (by repeat (first | exact List.Mem.head _ | apply List.Mem.tail))) one57 rfl ?_
    refine L_move rfl rfl ?_
    refine L_callX rfl fn64 rfl (by exact fun w hw => szIntS_spec w _ (left - (a1.size : Int)) (by omega) (by omega) (rd_carry (h1.2.1) hw) ho.2.1) ?_
    refine L_assign rfl rfl ?_
    refine L_nil ?_
    refine W_seq ?_
    refine W_seq ?_
    refine W_region ?_
    refine L_move rfl rfl ?_
    refine L_binV rfl rfl rfl bv_lss ?_
    refine L_nil ?_
    refine W_weaken (l' := [(1, _), (17, _)]) (Sub.cons rfl (Sub.cons rfl (Sub.nil _))) (MSub.refl _) ?_
    refine W_cond rfl (fun hc5 => ?_) (fun hc5 => ?_)
    · skip
      have hb1 : ¬ ((Bk.bulk a2 : Int) ≤ left - (a1.size : Int)) := by
        intro hn
        rw [if_pos hn] at hc5; simp at hc5; omega
      refine W_seq ?_
      refine W_region ?_
      refine L_assign rfl rfl ?_
      refine L_nil ?_
      refine W_ret ?_
      -- return 2 (R6)
      refine res1 rfl (ResOK.tmp rfl) ⟨?_, rfl⟩ (MSub.nil _)
      try simp only [bulk_pair, bulk_int, bulk_bool, bulk_str, Int.natCast_add, Int.natCast_zero] at *
      all_goals first
        | rfl
        | (rw [if_pos (by omega)] <;> (congr 1 <;> omega))
        | (rw [if_neg (by omega)])
    · skip
      have hb1 : (Bk.bulk a2 : Int) ≤ left - (a1.size : Int) := by
        rcases Int.decLt (left - (a1.size : Int)) (Bk.bulk a2 : Int) with hn | hn
        · omega
        · rw [if_neg (by omega)] at hc5; simp at hc5
      rw [if_pos hb1]
      refine W_skip ?_
      refine W_seq ?_
      refine W_region ?_
      refine L_move rfl rfl ?_
      refine L_assign rfl rfl ?_
      refine L_nil ?_
      refine W_ret ?_
      -- return 3 (R7)
      refine res1 rfl (ResOK.tmp rfl) ⟨?_, rfl⟩ (MSub.nil _)
      try simp only [bulk_pair, bulk_int, bulk_bool, bulk_str, Int.natCast_add, Int.natCast_zero] at *
      all_goals first
        | rfl
        | (rw [if_pos (by omega)] <;> (congr 1 <;> omega))
        | (rw [if_neg (by omega)])

theorem toUp_spec (w : World) (t1 : T_Up) (h1 : GT.rd w [] t1) (hb : Bk.bulk t1 ≤ 1048576) : Spec Tryz.prog 51 [.agg (GT.cells t1).toArray].toArray w [] (fun v M => ∃ t2 : T_Up, v = .agg (GT.cells t2).toArray ∧ GT.dat t2 = GT.dat t1 ∧ M = [treeH t2]) := by
  obtain ⟨a1, a2, a3⟩ := t1
  have hbk_1 : Bk.bulk a2 ≤ 1048576 := by (try simp only [bulk_pair, bulk_int, bulk_bool, bulk_str] at hb ⊢); omega
  change Spec _ _ [Value.agg #[.string a1, a2.hdr, .int .i64 a3]].toArray w [] _
  refine Spec.intro Tryz.func51 rfl Tryz.ntmps51 rfl ?_
  refine W_seq ?_
  refine W_region ?_
  refine L_box rfl rfl (fun bk1 => ?_)
  refine L_alloc rfl zero88 (fun bk2 => ?_)
  refine L_nil ?_
  refine W_seq ?_
  refine W_region ?_
  refine L_alloc rfl zero88 (fun bk3 => ?_)
  refine L_nil ?_
  refine W_seq ?_
  refine W_region ?_
  refine L_fieldAddr rfl rfl fld78_0 ?_
  refine L_load rfl rfl (by first | exact RdC.blk (by repeat (first | exact List.Mem.head _ | apply List.Mem.tail))) one9 rfl ?_
  refine L_fieldAddr rfl rfl fld88_0 ?_
  refine L_store rfl rfl (by repeat (first | exact Pick.here _ | apply Pick.there)) one9 rfl rfl ?_
  refine L_nil ?_
  refine W_seq ?_
  refine W_region ?_
  refine L_fieldAddr rfl rfl fld78_1 ?_
  refine L_load rfl rfl (by first | exact RdC.blk (by repeat (first | exact List.Mem.head _ | apply List.Mem.tail))) one57 rfl ?_
  refine L_callR rfl fn67 rfl (by exact fun w hw => toIntS_spec w _ (rd_carry (h1.2.1) hw) hbk_1) ?_
  rintro v M1 ⟨n2t, hv, hd1, rfl⟩
  subst hv
  simp only [List.cons_append, List.nil_append]
  refine L_fieldAddr rfl rfl fld88_1 ?_
  refine L_store rfl rfl (by repeat (first | exact Pick.here _ | apply Pick.there)) one57 rfl rfl ?_
  refine L_nil ?_
  refine W_seq ?_
  refine W_region ?_
  refine L_fieldAddr rfl rfl fld78_2 ?_
  refine L_load rfl rfl (by first | exact RdC.blk (by repeat (first | exact List.Mem.head _ | apply List.Mem.tail))) one3 rfl ?_
  refine L_fieldAddr rfl rfl fld88_2 ?_
  refine L_store rfl rfl (by repeat (first | exact Pick.here _ | apply Pick.there)) one3 rfl rfl ?_
  refine L_nil ?_
  refine W_seq ?_
  refine W_region ?_
  refine L_loadW rfl rfl (by first | exact RdC.blk (by repeat (first | exact List.Mem.head _ | apply List.Mem.tail))) (by exact agg88) ?_
  refine L_storeW rfl rfl (by repeat (first | exact Pick.here _ | apply Pick.there)) (by exact agg88) (by rfl) (by first | (simp [Value.oneCell', TL.hdr]; done) | (simp [Value.oneCell', TL.hdr, Value.cells]; done) | exact fun v hv => GT.one _ v hv) ?_
  refine L_nil ?_
  refine W_conv (M' := treeH ((a1, n2t, a3) : T_Up) :: _) (fun w h => (tree_snd (flat_str (h1.1)) (pairPick (by repeat (first | exact Pick.here _ | apply Pick.there)) (h.addFlat (flat_int (h1.2.2)))))) ?_
  refine W_ret ?_
  -- return 1 (R5)
  refine res1 rfl (ResOK.cell rfl (by repeat (first | exact List.Mem.head _ | apply List.Mem.tail)) (by exact agg88)) ⟨(a1, n2t, a3), rfl, by simp only [dat_pair, hd1], rfl⟩ (MSub.cons (by repeat (first | exact Pick.here _ | apply Pick.there)) (MSub.nil _))

theorem eqUpS_spec (w : World) (t1 t2 : TL T_Up) (h1 : GT.rd w [] t1) (h2 : GT.rd w [] t2) : Spec Tryz.prog 37 [t1.hdr, t2.hdr].toArray w [] (IsV (.bool (eqB (GT.dat t1) (GT.dat t2)))) := by
  obtain ⟨a1, c1, e1, x1, y1⟩ := t1
  obtain ⟨a2, c2, e2, x2, y2⟩ := t2
  have hm1 : x1.length ≤ 9223372036854775807 := rd_len h1
  have hm2 : x2.length ≤ 9223372036854775807 := rd_len h2
  dsimp only [TL.hdr]
  refine Spec.intro Tryz.func37 rfl Tryz.ntmps37 rfl ?_
  refine W_seq ?_
  refine W_region ?_
  refine L_assign rfl rfl ?_
  refine L_nil ?_
  refine W_seq ?_
  refine W_seq ?_
  refine W_region ?_
  refine L_move rfl rfl ?_
  refine L_lenS rfl rfl el37 ?_
  refine L_move rfl rfl ?_
  refine L_lenS rfl rfl el37 ?_
  refine L_binV rfl rfl rfl bv_neq ?_
  refine L_nil ?_
  refine W_weaken (l' := [(0, _), (1, _), (10, _)]) (Sub.cons rfl (Sub.cons rfl (Sub.cons rfl (Sub.nil _)))) (MSub.refl _) ?_
  refine W_cond rfl (fun hc1 => ?_) (fun hc1 => ?_)
  · skip
    refine W_seq ?_
    refine W_region ?_
    refine L_assign rfl rfl ?_
    refine L_nil ?_
    refine W_ret ?_
    -- return 1 (R2)
    refine res1 rfl (ResOK.tmp rfl) ⟨?_, rfl⟩ (MSub.nil _)
    refine congrArg Value.bool (Eq.symm (eqB_false.2 fun e => ?_))
    simp at hc1
    exact hc1 (by have := congrArg List.length e; simp [dat_TL] at this; omega)
  · skip
    have hl : x1.length = x2.length := by simp at hc1; omega
    refine W_skip ?_
    refine W_seq ?_
    refine W_seq ?_
    refine W_region ?_
    refine L_assign rfl rfl ?_
    refine L_nil ?_
    refine W_block ?_
    refine W_loopC (σ := Nat) 0 (fun (k : Nat) => [(5, .int .i64 (k : Int))]) (fun (k : Nat) => []) (fun (k : Nat) => k ≤ x1.length ∧ (x1.map GT.dat).take k = (x2.map GT.dat).take k) (fun (k : Nat) => x1.length - k) [(0, _), (1, _)] [] ?_ (Sub.cons rfl (Sub.cons rfl (Sub.cons rfl (Sub.nil _)))) (MSub.nil _) ?_
    · skip
      exact ⟨Nat.zero_le _, rfl⟩
    · skip
      rintro k ⟨hk, ht⟩
      refine W_weaken (l' := [(0, _), (1, _), (5, _)]) (Sub.cons rfl (Sub.cons rfl (Sub.cons rfl (Sub.nil _)))) (M' := []) (MSub.nil _) ?_
      refine W_seq ?_
      refine W_seq ?_
      refine W_region ?_
      refine L_move rfl rfl ?_
      refine L_move rfl rfl ?_
      refine L_lenS rfl rfl el37 ?_
      refine L_binV rfl rfl rfl bv_lss ?_
      refine L_nil ?_
      refine W_weaken (l' := [(0, _), (1, _), (5, _), (14, _)]) (Sub.cons rfl (Sub.cons rfl (Sub.cons rfl (Sub.cons rfl (Sub.nil _))))) (MSub.refl _) ?_
      refine W_cond rfl (fun hc4 => ?_) (fun hc4 => ?_)
      · skip
        have hk1 : k < x1.length := by simpa using hc4
        obtain ⟨g1, o1, rfl⟩ := rd_addr h1 hk1
        obtain ⟨g2, o2, rfl⟩ := rd_addr (k := k) h2 (show k < x2.length by omega)
        obtain ⟨u1, hu1⟩ := getEl hk1
        obtain ⟨u2, hu2⟩ := getEl (show k < x2.length by omega)
        refine W_skip ?_
        refine W_seq ?_
        refine W_block ?_
        refine W_seq ?_
        refine W_D0 [26] mix (by kernel_rfl) rfl ?_
        refine D_move GC.none (OpV.t rfl) ?_
        refine D_move GC.none (OpV.t rfl) ?_
        refine D_indexAddr _ GC.none (OpV.t rfl) (OpV.t rfl) el37 (fun hg => ⟨rfl, by (try dsimp only); omega⟩) ?_
        refine D_loadW GC.none (OpV.t rfl) (fun hg => (by first | exact RdC.blk (by repeat (first | exact List.Mem.head _ | apply List.Mem.tail)) | exact RdC.old (Cells.el h1 rfl hu1) | exact RdC.old (Cells.el h2 rfl hu2))) (by exact agg88) ?_
        refine D_move GC.none (OpV.t rfl) ?_
        refine D_move GC.none (OpV.t rfl) ?_
        refine D_indexAddr _ GC.none (OpV.t rfl) (OpV.t rfl) el37 (fun hg => ⟨rfl, by (try dsimp only); omega⟩) ?_
        refine D_loadW GC.none (OpV.t rfl) (fun hg => (by first | exact RdC.blk (by repeat (first | exact List.Mem.head _ | apply List.Mem.tail)) | exact RdC.old (Cells.el h1 rfl hu1) | exact RdC.old (Cells.el h2 rfl hu2))) (by exact agg88) ?_
        refine D_callX GC.none fn60 (OpVs.cons (OpV.t rfl) (OpVs.cons (OpV.t rfl) (OpVs.nil))) (by exact fun hg w F hF hM => (fun w hw => eqUp_spec w _ _ (rd_carry (h1.2.2.1 _ (List.mem_of_getElem? hu1)) hw) (rd_carry (h2.2.2.1 _ (List.mem_of_getElem? hu2)) hw)) w hF) ?_
        refine D_not GC.none (OpV.t rfl) ?_
        refine DV_nil ?_
        refine Give_is rfl rfl ?_
        refine Give_drop rfl ?_
        refine Give_drop rfl ?_
        refine Give_drop rfl ?_
        refine Give_drop rfl ?_
        refine Give_drop rfl ?_
        refine Give_drop rfl ?_
        refine Give_drop rfl ?_
        refine Give_drop rfl ?_
        refine Give_drop rfl ?_
        refine Give_nil ?_
        refine W_weaken (l' := [(0, _), (1, _), (5, _), (26, _)]) (Sub.cons rfl (Sub.cons rfl (Sub.cons rfl (Sub.cons rfl (Sub.nil _))))) (MSub.refl _) ?_
        refine W_cond rfl (fun hc6 => ?_) (fun hc6 => ?_)
        · skip
          refine W_seq ?_
          refine W_region ?_
          refine L_assign rfl rfl ?_
          refine L_nil ?_
          refine W_ret ?_
          -- return 2 (R7)
          refine res1 rfl (ResOK.tmp rfl) ⟨?_, rfl⟩ (MSub.nil _)
          refine congrArg Value.bool (Eq.symm (eqB_false.2 fun e => ?_))
          simp at hc6
          replace e : x1.map GT.dat = x2.map GT.dat := e
          have e2 := congrArg (fun l => l[k]?) e
          simp only [List.getElem?_map, hu1, hu2, Option.map_some, Option.some.injEq] at e2
          exact hc6 (by simpa [dat_int, dat_str, dat_bool] using e2)
        · skip
          refine W_skip ?_
          refine W_region ?_
          refine L_move rfl rfl ?_
          refine L_binV rfl rfl rfl (bv_addR (by unfold inR; omega)) ?_
          refine L_assign rfl rfl ?_
          refine L_nil ?_
          refine ⟨k + 1, (Sub.cons rfl (Sub.cons rfl (Sub.cons rfl (Sub.nil _)))), (MSub.nil _), ?_, ?_⟩
          · skip
            exact ⟨by omega, take_succ_eq ht (by rw [List.getElem?_map, hu1]; rfl) (by rw [List.getElem?_map, hu2]; rfl) (by simpa [dat_int, dat_str, dat_bool] using hc6)⟩
          · skip
            (try dsimp only); omega
      · skip
        refine W_exit ?_
        refine W_seq ?_
        refine W_region ?_
        refine L_assign rfl rfl ?_
        refine L_nil ?_
        refine W_ret ?_
        -- return 3 (R8)
        refine res1 rfl (ResOK.tmp rfl) ⟨?_, rfl⟩ (MSub.nil _)
        refine congrArg Value.bool (Eq.symm (eqB_true.2 ?_))
        have hk2 : x1.length ≤ k := by simpa using hc4
        have h3 := ht
        rw [List.take_of_length_le (by simp; omega), List.take_of_length_le (by simp; omega)] at h3
        exact h3

theorem szUpS_spec (w : World) (t1 : TL T_Up) (left : Int) (hl : 0 ≤ left) (hm : left ≤ 1048576) (h1 : GT.rd w [] t1) (ho : Ok.ok (GT.dat t1)) : Spec Tryz.prog 21 [t1.hdr, .int .i64 left].toArray w [] (IsV (.int .i64 (if (Bk.bulk t1 : Int) ≤ left then left - (Bk.bulk t1 : Int) else -1))) := by
  obtain ⟨a1, c1, e1, x1, y1⟩ := t1
  have hm1 : x1.length ≤ 9223372036854775807 := rd_len h1
  rw [bulk_TL]
  dsimp only [TL.hdr]
  refine Spec.intro Tryz.func21 rfl Tryz.ntmps21 rfl ?_
  refine W_seq ?_
  refine W_region ?_
  refine L_assign rfl rfl ?_
  refine L_nil ?_
  refine W_seq ?_
  refine W_region ?_
  refine L_move rfl rfl ?_
  refine L_move rfl rfl ?_
  refine L_lenS rfl rfl el25 ?_
  refine L_binV rfl rfl rfl (bv_subR (by unfold inR; omega)) ?_
  refine L_assign rfl rfl ?_
  refine L_nil ?_
  refine W_seq ?_
  refine W_seq ?_
  refine W_region ?_
  refine L_move rfl rfl ?_
  refine L_binV rfl rfl rfl bv_lss ?_
  refine L_nil ?_
  refine W_weaken (l' := [(0, _), (1, _), (11, _)]) (Sub.cons rfl (Sub.cons rfl (Sub.cons rfl (Sub.nil _)))) (MSub.refl _) ?_
  refine W_cond rfl (fun hc2 => ?_) (fun hc2 => ?_)
  · skip
    have hb0 : left - (x1.length : Int) < 0 := by simpa using hc2
    refine W_seq ?_
    refine W_region ?_
    refine L_assign rfl rfl ?_
    refine L_nil ?_
    refine W_ret ?_
    -- return 1 (R3)
    refine res1 rfl (ResOK.tmp rfl) ⟨?_, rfl⟩ (MSub.nil _)
    first
      | (rw [if_neg (by simp only [Int.natCast_add]; omega)]; done)
      | (rw [if_neg (by have := bulks_take_le x1 (k + 1); simp only [Int.natCast_add]; omega)]; done)
      | (have hk2 : x1.length ≤ k := by simpa using hc5
         rw [List.take_of_length_le hk2] at ht ⊢
         rw [if_pos (by simp only [Int.natCast_add]; omega)]; congr 1; simp only [Int.natCast_add]; omega)
  · skip
    have hb0 : ¬ (left - (x1.length : Int) < 0) := by simpa using hc2
    refine W_skip ?_
    refine W_seq ?_
    refine W_seq ?_
    refine W_region ?_
    refine L_assign rfl rfl ?_
    refine L_nil ?_
    refine W_block ?_
    have h0 : left - (x1.length : Int) = left - (x1.length : Int) - (bulks (x1.take 0) : Int) := by simp [bulks]
    rw [h0]
    refine W_loopC (σ := Nat) 0 (fun (k : Nat) => [(1, .int .i64 (left - (x1.length : Int) - (bulks (x1.take k) : Int))), (5, .int .i64 (k : Int))]) (fun (k : Nat) => []) (fun (k : Nat) => k ≤ x1.length ∧ 0 ≤ (left - (x1.length : Int) - (bulks (x1.take k) : Int))) (fun (k : Nat) => x1.length - k) [(0, _)] [] ?_ (Sub.cons rfl (Sub.cons rfl (Sub.cons rfl (Sub.nil _)))) (MSub.nil _) ?_
    · skip
      exact ⟨Nat.zero_le _, by simp [bulks]; omega⟩
    · skip
      rintro k ⟨hk, ht⟩
      refine W_weaken (l' := [(0, _), (1, _), (5, _)]) (Sub.cons rfl (Sub.cons rfl (Sub.cons rfl (Sub.nil _)))) (M' := []) (MSub.nil _) ?_
      refine W_seq ?_
      refine W_seq ?_
      refine W_region ?_
      refine L_move rfl rfl ?_
      refine L_move rfl rfl ?_
      refine L_lenS rfl rfl el25 ?_
      refine L_binV rfl rfl rfl bv_lss ?_
      refine L_nil ?_
      refine W_weaken (l' := [(0, _), (1, _), (5, _), (15, _)]) (Sub.cons rfl (Sub.cons rfl (Sub.cons rfl (Sub.cons rfl (Sub.nil _))))) (MSub.refl _) ?_
      refine W_cond rfl (fun hc5 => ?_) (fun hc5 => ?_)
      · skip
        have hk1 : k < x1.length := by simpa using hc5
        obtain ⟨g1, o1, rfl⟩ := rd_addr h1 hk1
        obtain ⟨u1, hu1⟩ := getEl hk1
        have hbs := bulks_take_succ hu1
        have hble := bulks_take_le x1 (k + 1)
        refine W_skip ?_
        refine W_seq ?_
        refine W_block ?_
        refine W_seq ?_
        refine W_region ?_
        refine L_move rfl rfl ?_
        refine L_move rfl rfl ?_
        refine L_indexAddr rfl rfl rfl el25 rfl (by omega) ?_
        refine L_loadW rfl rfl (by first | exact RdC.blk (by repeat (first | exact List.Mem.head _ | apply List.Mem.tail)) | exact RdC.old (Cells.el h1 rfl hu1)) (by exact agg78) ?_
        refine L_move rfl rfl ?_
        refine L_callX rfl fn42 rfl (by exact fun w hw => szUp_spec w _ _ (by omega) (by omega) (rd_carry (h1.2.2.1 _ (List.mem_of_getElem? hu1)) hw) (ho.2 _ (List.mem_map.2 ⟨u1, List.mem_of_getElem? hu1, rfl⟩))) ?_
        refine L_assign rfl rfl ?_
        refine L_nil ?_
        refine W_seq ?_
        refine W_region ?_
        refine L_move rfl rfl ?_
        refine L_binV rfl rfl rfl bv_lss ?_
        refine L_nil ?_
        refine W_weaken (l' := [(0, _), (1, _), (5, _), (25, _)]) (Sub.cons rfl (Sub.cons rfl (Sub.cons rfl (Sub.cons rfl (Sub.nil _))))) (MSub.refl _) ?_
        refine W_cond rfl (fun hc8 => ?_) (fun hc8 => ?_)
        · skip
          have hb1 : ¬ ((Bk.bulk u1 : Int) ≤ (left - (x1.length : Int) - (bulks (x1.take k) : Int))) := by
            intro hn
            rw [if_pos hn] at hc8; simp at hc8; omega
          refine W_seq ?_
          refine W_region ?_
          refine L_assign rfl rfl ?_
          refine L_nil ?_
          refine W_ret ?_
          -- return 2 (R9)
          refine res1 rfl (ResOK.tmp rfl) ⟨?_, rfl⟩ (MSub.nil _)
          first
            | (rw [if_neg (by simp only [Int.natCast_add]; omega)]; done)
            | (rw [if_neg (by have := bulks_take_le x1 (k + 1); simp only [Int.natCast_add]; omega)]; done)
            | (have hk2 : x1.length ≤ k := by simpa using hc5
               rw [List.take_of_length_le hk2] at ht ⊢
               rw [if_pos (by simp only [Int.natCast_add]; omega)]; congr 1; simp only [Int.natCast_add]; omega)
        · skip
          have hb1 : (Bk.bulk u1 : Int) ≤ (left - (x1.length : Int) - (bulks (x1.take k) : Int)) := by
            rcases Int.decLt (left - (x1.length : Int) - (bulks (x1.take k) : Int)) (Bk.bulk u1 : Int) with hn | hn
            · omega
            · rw [if_neg (by omega)] at hc8; simp at hc8
          rw [if_pos hb1]
          have hnx : (left - (x1.length : Int) - (bulks (x1.take k) : Int)) - (Bk.bulk u1 : Int) = left - (x1.length : Int) - (bulks (x1.take (k + 1)) : Int) := by rw [hbs]; omega
          rw [hnx]
          refine W_skip ?_
          refine W_region ?_
          refine L_move rfl rfl ?_
          refine L_binV rfl rfl rfl (bv_addR (by unfold inR; omega)) ?_
          refine L_assign rfl rfl ?_
          refine L_nil ?_
          refine ⟨k + 1, (Sub.cons rfl (Sub.cons rfl (Sub.cons rfl (Sub.nil _)))), (MSub.nil _), ?_, ?_⟩
          · skip
            exact ⟨by omega, by omega⟩
          · skip
            (try dsimp only); omega
      · skip
        refine W_exit ?_
        refine W_seq ?_
        refine W_region ?_
        refine L_move rfl rfl ?_
        refine L_assign rfl rfl ?_
        refine L_nil ?_
        refine W_ret ?_
        -- return 3 (R10)
        refine res1 rfl (ResOK.tmp rfl) ⟨?_, rfl⟩ (MSub.nil _)
        first
          | (rw [if_neg (by simp only [Int.natCast_add]; omega)]; done)
          | (rw [if_neg (by have := bulks_take_le x1 (k + 1); simp only [Int.natCast_add]; omega)]; done)
          | (have hk2 : x1.length ≤ k := by simpa using hc5
             rw [List.take_of_length_le hk2] at ht ⊢
             rw [if_pos (by simp only [Int.natCast_add]; omega)]; congr 1; simp only [Int.natCast_add]; omega)

theorem toUpS_spec (w : World) (t1 : TL T_Up) (h1 : GT.rd w [] t1) (hb : Bk.bulk t1 ≤ 1048576) : Spec Tryz.prog 28 [t1.hdr].toArray w [] (fun v M => ∃ t2 : TL T_Up, v = t2.hdr ∧ GT.dat t2 = GT.dat t1 ∧ M = [treeH t2]) := by
  obtain ⟨a1, c1, e1, x1, y1⟩ := t1
  rw [bulk_TL] at hb
  dsimp only [TL.hdr]
  refine Spec.intro Tryz.func28 rfl Tryz.ntmps28 rfl ?_
  refine W_seq ?_
  refine W_region ?_
  refine L_assign rfl rfl ?_
  refine L_nil ?_
  refine W_seq ?_
  refine W_region ?_
  refine L_move rfl rfl ?_
  refine L_lenS rfl rfl el25 ?_
  refine L_make (τ := T_Up) (ByteArray.empty, (TL.nil Int 0), (0 : Int)) rfl rfl rfl el37 rfl rfl (flat_pair (flat_str trivial) (flat_pair (flat_nil 0) (flat_int trivial))) (by omega) (by unfold maxLen; omega) (fun g => ?_)
  refine L_assign rfl rfl ?_
  refine L_nil ?_
  refine W_seq ?_
  refine W_seq ?_
  refine W_region ?_
  refine L_assign rfl rfl ?_
  refine L_nil ?_
  refine W_block ?_
  refine W_loopC (σ := Nat × List T_Up) (0, List.replicate x1.length (ByteArray.empty, (TL.nil Int 0), (0 : Int))) (fun (p : Nat × List T_Up) => [(4, .int .i64 (p.1 : Int))]) (fun (p : Nat × List T_Up) => [treeH (⟨some ⟨g, 0, none⟩, x1.length, 88, p.2, []⟩ : TL T_Up)]) (fun (p : Nat × List T_Up) => p.1 ≤ x1.length ∧ p.2.length = x1.length ∧ (p.2.take p.1).map GT.dat = (x1.take p.1).map GT.dat) (fun (p : Nat × List T_Up) => x1.length - p.1) [(0, _), (3, _)] [] ?_ (Sub.cons rfl (Sub.cons rfl (Sub.cons rfl (Sub.nil _)))) (MSub.cons (by repeat (first | exact Pick.here _ | apply Pick.there)) (MSub.nil _)) ?_
  · skip
    exact ⟨Nat.zero_le _, by simp, by simp⟩
  · skip
    rintro ⟨k, cur⟩ ⟨hk, hlen, hdat⟩
    dsimp only at hk hlen hdat
    refine W_weaken (l' := [(0, _), (3, _), (4, _)]) (Sub.cons rfl (Sub.cons rfl (Sub.cons rfl (Sub.nil _)))) (M' := [_]) (MSub.cons (by repeat (first | exact Pick.here _ | apply Pick.there)) (MSub.nil _)) ?_
    refine W_seq ?_
    refine W_seq ?_
    refine W_region ?_
    refine L_move rfl rfl ?_
    refine L_move rfl rfl ?_
    refine L_lenS rfl rfl el25 ?_
    refine L_binV rfl rfl rfl bv_lss ?_
    refine L_nil ?_
    refine W_weaken (l' := [(0, _), (3, _), (4, _), (11, _)]) (Sub.cons rfl (Sub.cons rfl (Sub.cons rfl (Sub.cons rfl (Sub.nil _))))) (MSub.refl _) ?_
    refine W_cond rfl (fun hc3 => ?_) (fun hc3 => ?_)
    · skip
      have hk1 : k < x1.length := by simpa using hc3
      obtain ⟨g1, o1, rfl⟩ := rd_addr h1 hk1
      obtain ⟨u1, hu1⟩ := getEl hk1
      have hub : Bk.bulk u1 ≤ 1048576 := by have := bulk_mem (List.mem_of_getElem? hu1); omega
      refine W_skip ?_
      refine W_seq ?_
      refine W_block ?_
      refine W_region ?_
      refine L_move rfl rfl ?_
      refine L_move rfl rfl ?_
      refine L_move rfl rfl ?_
      refine L_move rfl rfl ?_
      refine L_indexAddr rfl rfl rfl el25 rfl (by omega) ?_
      refine L_loadW rfl rfl (by first | exact RdC.blk (by repeat (first | exact List.Mem.head _ | apply List.Mem.tail)) | exact RdC.old (Cells.el h1 rfl hu1)) (by exact agg78) ?_
      refine L_callR rfl fn51 rfl (by exact fun w hw => toUp_spec w _ (rd_carry (h1.2.2.1 _ (List.mem_of_getElem? hu1)) hw) hub) ?_
      rintro v M1 ⟨u2, hv, hd, rfl⟩
      subst hv
      simp only [List.cons_append, List.nil_append]
      refine L_indexAddr rfl rfl rfl el37 rfl (by omega) ?_
      obtain ⟨u0, hu0⟩ := getEl (show k < cur.length by omega)
      refine L_storeEl u2 rfl rfl (by repeat (first | exact Pick.here _ | apply Pick.there)) rfl hu0 rfl (by repeat (first | exact Pick.here _ | apply Pick.there)) (.inl agg88) ?_
      refine L_nil ?_
      refine W_region ?_
      refine L_move rfl rfl ?_
      refine L_binV rfl rfl rfl (bv_addR (by unfold inR; omega)) ?_
      refine L_assign rfl rfl ?_
      refine L_nil ?_
      refine ⟨(k + 1, cur.set k u2), (Sub.cons rfl (Sub.cons rfl (Sub.cons rfl (Sub.nil _)))), (MSub.cons (by repeat (first | exact Pick.here _ | apply Pick.there)) (MSub.nil _)), ?_, ?_⟩
      · skip
        exact ⟨by dsimp only; omega, by simpa using hlen, map_take_set GT.dat GT.dat hdat (by omega) hu1 hd⟩
      · skip
        dsimp only; omega
    · skip
      refine W_exit ?_
      refine W_seq ?_
      refine W_region ?_
      refine L_move rfl rfl ?_
      refine L_assign rfl rfl ?_
      refine L_nil ?_
      refine W_ret ?_
      -- return 1 (R6)
      refine res1 rfl (ResOK.tmp rfl) ⟨⟨some ⟨g, 0, none⟩, x1.length, 88, cur, []⟩, ?_, ?_, rfl⟩ (MSub.cons (by repeat (first | exact Pick.here _ | apply Pick.there)) (MSub.nil _))
      · show _ = Value.slice _ cur.length _
        rw [hlen]
      · have hk2 : x1.length ≤ k := by simpa using hc3
        rw [List.take_of_length_le (by omega), List.take_of_length_le (by omega)] at hdat
        exact hdat

theorem eqUps_spec (w : World) (t1 t2 : T_Ups) (h1 : GT.rd w [] t1) (h2 : GT.rd w [] t2) : Spec Tryz.prog 13 [.agg (GT.cells t1).toArray, .agg (GT.cells t2).toArray].toArray w [] (IsV (.bool (eqB (GT.dat t1) (GT.dat t2)))) := by
  obtain ⟨a1, a2⟩ := t1
  obtain ⟨b1, b2⟩ := t2
  change Spec _ _ [Value.agg #[.int .i64 a1, a2.hdr], Value.agg #[.int .i64 b1, b2.hdr]].toArray w [] _
  refine Spec.intro Tryz.func13 rfl Tryz.ntmps13 rfl ?_
  refine W_seq ?_
  refine W_region ?_
  refine L_box rfl rfl (fun bk2 => ?_)
  refine L_box rfl rfl (fun bk3 => ?_)
  refine L_assign rfl rfl ?_
  refine L_nil ?_
  refine W_seq ?_
  refine W_seq ?_
  refine W_region ?_
  refine L_fieldAddr rfl rfl fld39_0 ?_
  refine L_load rfl rfl (by first | exact RdC.blk (by repeat (first | exact List.Mem.head _ | apply List.Mem.tail))) one3 rfl ?_
  refine L_fieldAddr rfl rfl fld39_0 ?_
  refine L_load rfl rfl (by first | exact RdC.blk (by repeat (first | exact List.Mem.head _ | apply List.Mem.tail))) one3 rfl ?_
  refine L_binV rfl rfl rfl bv_neq ?_
  refine L_nil ?_
  refine W_weaken (l' := [(2, _), (3, _), (9, _)]) (Sub.cons rfl (Sub.cons rfl (Sub.cons rfl (Sub.nil _)))) (MSub.refl _) ?_
  refine W_cond rfl (fun hc1 => ?_) (fun hc1 => ?_)
  · skip
    refine W_seq ?_
    refine W_region ?_
    refine L_assign rfl rfl ?_
    refine L_nil ?_
    refine W_ret ?_
    -- return 1 (R2)
    refine res1 rfl (ResOK.tmp rfl) ⟨?_, rfl⟩ (MSub.nil _)
    clear h1 h2
    first
      | (refine congrArg Value.bool (Eq.symm (eqB_false.2 fun e => ?_)); try simp only [dat_pair, dat_int, dat_bool, dat_str, Prod.mk.injEq] at e; simp_all; done)
      | (refine congrArg Value.bool (Eq.symm (eqB_true.2 ?_)); try simp only [dat_pair, dat_int, dat_bool, dat_str, Prod.mk.injEq]; simp_all; done)
  · skip
    refine W_skip ?_
    refine W_seq ?_
    refine W_seq ?_
    refine W_region ?_
    refine L_fieldAddr rfl rfl fld39_1 ?_
    refine L_load rfl rfl (by first | exact RdC.blk (by repeat (first | exact List.Mem.head _ | apply List.Mem.tail))) one37 rfl ?_
    refine L_fieldAddr rfl rfl fld39_1 ?_
    refine L_load rfl rfl (by first | exact RdC.blk (by repeat (first | exact List.Mem.head _ | apply List.Mem.tail))) one37 rfl ?_
    refine L_callX rfl fn37 rfl (by exact fun w hw => eqUpS_spec w _ _ (rd_carry (h1.2) hw) (rd_carry (h2.2) hw)) ?_
    refine L_not rfl rfl ?_
    refine L_nil ?_
    refine W_weaken (l' := [(15, _)]) (Sub.cons rfl (Sub.nil _)) (MSub.refl _) ?_
    refine W_cond rfl (fun hc3 => ?_) (fun hc3 => ?_)
    · skip
      refine W_seq ?_
      refine W_region ?_
      refine L_assign rfl rfl ?_
      refine L_nil ?_
      refine W_ret ?_
      -- return 2 (R4)
      refine res1 rfl (ResOK.tmp rfl) ⟨?_, rfl⟩ (MSub.nil _)
      clear h1 h2
      first
        | (refine congrArg Value.bool (Eq.symm (eqB_false.2 fun e => ?_)); try simp only [dat_pair, dat_int, dat_bool, dat_str, Prod.mk.injEq] at e; simp_all; done)
        | (refine congrArg Value.bool (Eq.symm (eqB_true.2 ?_)); try simp only [dat_pair, dat_int, dat_bool, dat_str, Prod.mk.injEq]; simp_all; done)
    · skip
      refine W_skip ?_
      refine W_seq ?_
      refine W_region ?_
      refine L_assign rfl rfl ?_
      refine L_nil ?_
      refine W_ret ?_
      -- return 3 (R5)
      refine res1 rfl (ResOK.tmp rfl) ⟨?_, rfl⟩ (MSub.nil _)
      clear h1 h2
      first
        | (refine congrArg Value.bool (Eq.symm (eqB_false.2 fun e => ?_)); try simp only [dat_pair, dat_int, dat_bool, dat_str, Prod.mk.injEq] at e; simp_all; done)
        | (refine congrArg Value.bool (Eq.symm (eqB_true.2 ?_)); try simp only [dat_pair, dat_int, dat_bool, dat_str, Prod.mk.injEq]; simp_all; done)

theorem szUps_spec (w : World) (t1 : T_Ups) (left : Int) (hl : 0 ≤ left) (hm : left ≤ 1048576) (h1 : GT.rd w [] t1) (ho : Ok.ok (GT.dat t1)) : Spec Tryz.prog 5 [.agg (GT.cells t1).toArray, .int .i64 left].toArray w [] (IsV (.int .i64 (if (Bk.bulk t1 : Int) ≤ left then left - (Bk.bulk t1 : Int) else -1))) := by
  obtain ⟨a1, a2⟩ := t1
  change Spec _ _ [Value.agg #[.int .i64 a1, a2.hdr], .int .i64 left].toArray w [] _
  refine Spec.intro Tryz.func5 rfl Tryz.ntmps5 rfl ?_
  refine W_seq ?_
  refine W_region ?_
  refine L_box rfl rfl (fun bk2 => ?_)
  refine L_assign rfl rfl ?_
  refine L_nil ?_
  refine W_seq ?_
  refine W_region ?_
  refine L_fieldAddr rfl rfl fld27_1 ?_
  refine L_load rfl rfl (by first | exact RdC.blk (by repeat (first | exact List.Mem.head _ | apply List.Mem.tail))) one25 rfl ?_
  refine L_move rfl rfl ?_
  refine L_callX rfl fn21 rfl (by exact fun w hw => szUpS_spec w _ (left) (by omega) (by omega) (rd_carry (h1.2) hw) ho.2) ?_
  refine L_assign rfl rfl ?_
  refine L_nil ?_
  refine W_seq ?_
  refine W_seq ?_
  refine W_region ?_
  refine L_move rfl rfl ?_
  refine L_binV rfl rfl rfl bv_lss ?_
  refine L_nil ?_
  refine W_weaken (l' := [(1, _), (10, _)]) (Sub.cons rfl (Sub.cons rfl (Sub.nil _))) (MSub.refl _) ?_
  refine W_cond rfl (fun hc2 => ?_) (fun hc2 => ?_)
  · skip
    have hb1 : ¬ ((Bk.bulk a2 : Int) ≤ left) := by
      intro hn
      rw [if_pos hn] at hc2; simp at hc2; omega
    refine W_seq ?_
    refine W_region ?_
    refine L_assign rfl rfl ?_
    refine L_nil ?_
    refine W_ret ?_
    -- return 1 (R3)
    refine res1 rfl (ResOK.tmp rfl) ⟨?_, rfl⟩ (MSub.nil _)
    try simp only [bulk_pair, bulk_int, bulk_bool, bulk_str, Int.natCast_add, Int.natCast_zero] at *
    all_goals first
      | rfl
      | (rw [if_pos (by omega)] <;> (congr 1 <;> omega))
      | (rw [if_neg (by omega)])
  · skip
    have hb1 : (Bk.bulk a2 : Int) ≤ left := by
      rcases Int.decLt (left) (Bk.bulk a2 : Int) with hn | hn
      · omega
      · rw [if_neg (by omega)] at hc2; simp at hc2
    rw [if_pos hb1]
    refine W_skip ?_
    refine W_seq ?_
    refine W_region ?_
    refine L_move rfl rfl ?_
    refine L_assign rfl rfl ?_
    refine L_nil ?_
    refine W_ret ?_
    -- return 2 (R4)
    refine res1 rfl (ResOK.tmp rfl) ⟨?_, rfl⟩ (MSub.nil _)
    try simp only [bulk_pair, bulk_int, bulk_bool, bulk_str, Int.natCast_add, Int.natCast_zero] at *
    all_goals first
      | rfl
      | (rw [if_pos (by omega)] <;> (congr 1 <;> omega))
      | (rw [if_neg (by omega)])

theorem toUps_spec (w : World) (t1 : T_Ups) (h1 : GT.rd w [] t1) (hb : Bk.bulk t1 ≤ 1048576) : Spec Tryz.prog 8 [.agg (GT.cells t1).toArray].toArray w [] (fun v M => ∃ t2 : T_Ups, v = .agg (GT.cells t2).toArray ∧ GT.dat t2 = GT.dat t1 ∧ M = [treeH t2]) := by
  obtain ⟨a1, a2⟩ := t1
  have hbk_1 : Bk.bulk a2 ≤ 1048576 := by (try simp only [bulk_pair, bulk_int, bulk_bool, bulk_str] at hb ⊢); omega
  change Spec _ _ [Value.agg #[.int .i64 a1, a2.hdr]].toArray w [] _
  refine Spec.intro Tryz.func8 rfl Tryz.ntmps8 rfl ?_
  refine W_seq ?_
  refine W_region ?_
  refine L_box rfl rfl (fun bk1 => ?_)
  refine L_alloc rfl zero39 (fun bk2 => ?_)
  refine L_nil ?_
  refine W_seq ?_
  refine W_region ?_
  refine L_alloc rfl zero39 (fun bk3 => ?_)
  refine L_nil ?_
  refine W_seq ?_
  refine W_region ?_
  refine L_fieldAddr rfl rfl fld27_0 ?_
  refine L_load rfl rfl (by first | exact RdC.blk (by repeat (first | exact List.Mem.head _ | apply List.Mem.tail))) one3 rfl ?_
  refine L_fieldAddr rfl rfl fld39_0 ?_
  refine L_store rfl rfl (by repeat (first | exact Pick.here _ | apply Pick.there)) one3 rfl rfl ?_
  refine L_nil ?_
  refine W_seq ?_
  refine W_region ?_
  refine L_fieldAddr rfl rfl fld27_1 ?_
  refine L_load rfl rfl (by first | exact RdC.blk (by repeat (first | exact List.Mem.head _ | apply List.Mem.tail))) one25 rfl ?_
  refine L_callR rfl fn28 rfl (by exact fun w hw => toUpS_spec w _ (rd_carry (h1.2) hw) hbk_1) ?_
  rintro v M1 ⟨n2t, hv, hd1, rfl⟩
  subst hv
  simp only [List.cons_append, List.nil_append]
  refine L_fieldAddr rfl rfl fld39_1 ?_
  refine L_store rfl rfl (by repeat (first | exact Pick.here _ | apply Pick.there)) one37 rfl rfl ?_
  refine L_nil ?_
  refine W_seq ?_
  refine W_region ?_
  refine L_loadW rfl rfl (by first | exact RdC.blk (by repeat (first | exact List.Mem.head _ | apply List.Mem.tail))) (by exact agg39) ?_
  refine L_storeW rfl rfl (by repeat (first | exact Pick.here _ | apply Pick.there)) (by exact agg39) (by rfl) (by first | (simp [Value.oneCell', TL.hdr]; done) | (simp [Value.oneCell', TL.hdr, Value.cells]; done) | exact fun v hv => GT.one _ v hv) ?_
  refine L_nil ?_
  refine W_conv (M' := treeH ((a1, n2t) : T_Ups) :: _) (fun w h => (tree_snd (flat_int (h1.1)) (frontPick (by repeat (first | exact Pick.here _ | apply Pick.there)) h))) ?_
  refine W_ret ?_
  -- return 1 (R4)
  refine res1 rfl (ResOK.cell rfl (by repeat (first | exact List.Mem.head _ | apply List.Mem.tail)) (by exact agg39)) ⟨(a1, n2t), rfl, by simp only [dat_pair, hd1], rfl⟩ (MSub.cons (by repeat (first | exact Pick.here _ | apply Pick.there)) (MSub.nil _))

theorem markUpS_spec (w : World) (t1 : TL T_Up) (k0 : Nat) (hk0 : 0 < k0) (hb : k0 + Mk.cnt t1 < 9223372036854775807) : Spec Tryz.prog 39 [t1.hdr, .int .i64 (k0 : Int)].toArray w [treeH t1] (fun v M => v = .int .i64 ((k0 + Mk.cnt t1 : Nat) : Int) ∧ M = [treeH (Mk.mkd k0 t1)]) := by
  obtain ⟨a1, c1, e1, x1, y1⟩ := t1
  replace hb : k0 + cnts x1 < 9223372036854775807 := hb
  dsimp only [TL.hdr]
  refine Spec.intro Tryz.func39 rfl Tryz.ntmps39 rfl ?_
  refine W_fact (fun w h => ow_facts (h.prs _ (List.mem_cons_self ..))) fun hF => ?_
  replace hF : x1.length ≤ 9223372036854775807 ∧ (0 < x1.length → ∃ g, a1 = some ⟨g, 0, none⟩) := hF
  refine W_seq ?_
  refine W_region ?_
  refine L_assign rfl rfl ?_
  refine L_nil ?_
  refine W_seq ?_
  refine W_seq ?_
  refine W_region ?_
  refine L_assign rfl rfl ?_
  refine L_nil ?_
  refine W_block ?_
  refine W_conv (M' := [treeH (⟨a1, c1, e1, half k0 0 x1, y1⟩ : TL T_Up)]) (fun w h => by rw [half_zero]; exact h) ?_
  refine W_loopC (σ := Nat) 0 (fun (i : Nat) => [(1, .int .i64 ((k0 + cnts (x1.take i) : Nat) : Int)), (5, .int .i64 (i : Int))]) (fun (i : Nat) => [treeH (⟨a1, c1, e1, half k0 i x1, y1⟩ : TL T_Up)]) (fun (i : Nat) => i ≤ x1.length) (fun (i : Nat) => x1.length - i) [(0, _)] [] ?_ (Sub.cons rfl (Sub.cons rfl (Sub.cons rfl (Sub.nil _)))) (MSub.cons (by repeat (first | exact Pick.here _ | apply Pick.there)) (MSub.nil _)) ?_
  · skip
    exact Nat.zero_le _
  · skip
    rintro i hi
    refine W_weaken (l' := [(0, _), (1, _), (5, _)]) (Sub.cons rfl (Sub.cons rfl (Sub.cons rfl (Sub.nil _)))) (M' := [_]) (MSub.cons (by repeat (first | exact Pick.here _ | apply Pick.there)) (MSub.nil _)) ?_
    refine W_seq ?_
    refine W_seq ?_
    refine W_region ?_
    refine L_move rfl rfl ?_
    refine L_move rfl rfl ?_
    refine L_lenS rfl rfl el37 ?_
    refine L_binV rfl rfl rfl bv_lss ?_
    refine L_nil ?_
    refine W_weaken (l' := [(0, _), (1, _), (5, _), (9, _)]) (Sub.cons rfl (Sub.cons rfl (Sub.cons rfl (Sub.cons rfl (Sub.nil _))))) (MSub.refl _) ?_
    refine W_cond rfl (fun hc2 => ?_) (fun hc2 => ?_)
    · skip
      have hk1 : i < x1.length := by simpa using hc2
      obtain ⟨g, rfl⟩ := hF.2 (by omega)
      obtain ⟨u, hu⟩ := getEl hk1
      have hs := cnts_take_succ hu
      have hle := cnts_take_le x1 (i + 1)
      have hlh := half_length k0 i x1
      obtain ⟨b1, b2, b3⟩ := u
      simp only [cnt_pair, cnt_int, cnt_str] at hs
      refine W_skip ?_
      refine W_seq ?_
      refine W_block ?_
      refine W_seq ?_
      refine W_region ?_
      refine L_move rfl rfl ?_
      refine L_move rfl rfl ?_
      refine L_move rfl rfl ?_
      refine L_callX rfl fn40 rfl (by exact fun w hw => markText_spec w (k0 + cnts (x1.take i)) (by omega) (by omega)) ?_
      refine L_indexAddr rfl rfl rfl el37 rfl (by omega) ?_
      refine L_fieldAddr rfl rfl fld88_0 ?_
      refine L_storeElF (fo := 0) (x' := (((mtx (k0 + cnts (x1.take i))), b2, b3) : T_Up)) rfl rfl (by repeat (first | exact Pick.here _ | apply Pick.there)) rfl (show ((half k0 i x1) : List T_Up)[i]? = some ((b1, b2, b3) : T_Up) from half_get (k := k0) hu) rfl rfl (by decide) rfl (fun w h => by exact ⟨(by exact trivial), h.2.1, h.2.2⟩) one9 ?_
      refine L_nil ?_
      refine W_seq ?_
      refine W_region ?_
      refine L_move rfl rfl ?_
      refine L_binV rfl rfl rfl (bv_addR (by unfold inR; omega)) ?_
      refine L_assign rfl rfl ?_
      refine L_nil ?_
      rw [show (((k0 + cnts (x1.take i)) : Nat) : Int) + 1 = (((k0 + cnts (x1.take i)) + 1 : Nat) : Int) from rfl]
      refine W_seq ?_
      refine W_region ?_
      refine L_move rfl rfl ?_
      refine L_move rfl rfl ?_
      refine L_indexAddr rfl rfl rfl el37 rfl (by omega) ?_
      refine L_fieldAddr rfl rfl fld88_1 ?_
      refine L_load rfl rfl (by exact RdC.el (L := (⟨some ⟨g, 0, none⟩, c1, e1, ((half k0 i x1).set i (((mtx (k0 + cnts (x1.take i))), b2, b3) : T_Up)), y1⟩ : TL T_Up)) (by repeat (first | exact List.Mem.head _ | apply List.Mem.tail)) rfl (show (((half k0 i x1).set i (((mtx (k0 + cnts (x1.take i))), b2, b3) : T_Up)) : List T_Up)[i]? = some (((mtx (k0 + cnts (x1.take i))), b2, b3) : T_Up) from set_get (half_get (k := k0) hu))) one57 rfl ?_
      refine L_move rfl rfl ?_
      refine L_conv (fun w h => (tree_pair (frontPick (Pick.there _ (Pick.here _)) (tree_pair (el_out (L := (⟨some ⟨g, 0, none⟩, c1, e1, ((half k0 i x1).set i (((mtx (k0 + cnts (x1.take i))), b2, b3) : T_Up)), y1⟩ : TL T_Up)) (show (((half k0 i x1).set i (((mtx (k0 + cnts (x1.take i))), b2, b3) : T_Up)) : List T_Up)[i]? = some (((mtx (k0 + cnts (x1.take i))), b2, b3) : T_Up) from set_get (half_get (k := k0) hu)) (frontPick (by repeat (first | exact Pick.here _ | apply Pick.there)) h)))))) ?_
      refine L_call1 rfl fn62 rfl (Pick.here _) (by exact fun w hw => markIntS_spec w b2 ((k0 + cnts (x1.take i)) + 1) (by omega) (by omega)) ?_
      rintro v M1 ⟨hv, rfl⟩
      subst hv
      simp only [List.cons_append, List.nil_append]
      refine L_conv (M' := treeH (⟨some ⟨g, 0, none⟩, c1, e1, (((half k0 i x1).set i (((mtx (k0 + cnts (x1.take i))), b2, b3) : T_Up)).set i (((mtx (k0 + cnts (x1.take i))), (Mk.mkd ((k0 + cnts (x1.take i)) + 1) b2), b3) : T_Up)), y1⟩ : TL T_Up) :: _) (fun w h => el_in (L := (⟨some ⟨g, 0, none⟩, c1, e1, ((half k0 i x1).set i (((mtx (k0 + cnts (x1.take i))), b2, b3) : T_Up)), y1⟩ : TL T_Up)) (show (((half k0 i x1).set i (((mtx (k0 + cnts (x1.take i))), b2, b3) : T_Up)) : List T_Up)[i]? = some (((mtx (k0 + cnts (x1.take i))), b2, b3) : T_Up) from set_get (half_get (k := k0) hu)) (by simp only [cells_pair, cells_mkTL]) (pairPick (Pick.here _) (pairFront (Pick.here _) h))) ?_
      refine L_assign rfl rfl ?_
      refine L_nil ?_
      refine W_seq ?_
      refine W_region ?_
      refine L_move rfl rfl ?_
      refine L_move rfl rfl ?_
      refine L_move rfl rfl ?_
      refine L_indexAddr rfl rfl rfl el37 rfl (by omega) ?_
      refine L_fieldAddr rfl rfl fld88_2 ?_
      refine L_storeElF (fo := 2) (x' := (((mtx (k0 + cnts (x1.take i))), (Mk.mkd ((k0 + cnts (x1.take i)) + 1) b2), (((((k0 + cnts (x1.take i)) + 1) + Mk.cnt b2) : Nat) : Int)) : T_Up)) rfl rfl (by repeat (first | exact Pick.here _ | apply Pick.there)) rfl (show ((((half k0 i x1).set i (((mtx (k0 + cnts (x1.take i))), b2, b3) : T_Up)).set i (((mtx (k0 + cnts (x1.take i))), (Mk.mkd ((k0 + cnts (x1.take i)) + 1) b2), b3) : T_Up)) : List T_Up)[i]? = some (((mtx (k0 + cnts (x1.take i))), (Mk.mkd ((k0 + cnts (x1.take i)) + 1) b2), b3) : T_Up) from set_get (set_get (half_get (k := k0) hu))) rfl rfl (by decide) rfl (fun w h => by exact ⟨h.1, h.2.1, (by exact trivial)⟩) one3 ?_
      refine L_nil ?_
      refine W_region ?_
      refine L_move rfl rfl ?_
      refine L_binV rfl rfl rfl (bv_addR (by unfold inR; omega)) ?_
      refine L_assign rfl rfl ?_
      refine L_nil ?_
      rw [show (((((k0 + cnts (x1.take i)) + 1) + Mk.cnt b2) : Nat) : Int) + 1 = (((((k0 + cnts (x1.take i)) + 1) + Mk.cnt b2) + 1 : Nat) : Int) from rfl]
      have hfin : ((((half k0 i x1).set i (((mtx (k0 + cnts (x1.take i))), b2, b3) : T_Up)).set i (((mtx (k0 + cnts (x1.take i))), (Mk.mkd ((k0 + cnts (x1.take i)) + 1) b2), b3) : T_Up)).set i (((mtx (k0 + cnts (x1.take i))), (Mk.mkd ((k0 + cnts (x1.take i)) + 1) b2), (((((k0 + cnts (x1.take i)) + 1) + Mk.cnt b2) : Nat) : Int)) : T_Up)) = half k0 (i + 1) x1 := by
        have h9 := half_set (k := k0) hu
        try simp only [mk_pair, mk_int, mk_str, cnt_pair, cnt_int, cnt_str, ← Nat.add_assoc] at h9
        try simp only [List.set_set]
        exact h9
      refine W_conv (M' := treeH (⟨some ⟨g, 0, none⟩, c1, e1, (half k0 (i + 1) x1), y1⟩ : TL T_Up) :: _) (fun w h => by rw [← hfin]; exact h) ?_
      have hE : ((((k0 + cnts (x1.take i)) + 1) + Mk.cnt b2) + 1) = k0 + cnts (x1.take (i + 1)) := by rw [hs]; (try simp only [cnt_pair, cnt_int, cnt_str]); omega
      rw [hE]
      refine W_region ?_
      refine L_move rfl rfl ?_
      refine L_binV rfl rfl rfl (bv_addR (by unfold inR; omega)) ?_
      refine L_assign rfl rfl ?_
      refine L_nil ?_
      refine ⟨i + 1, (Sub.cons rfl (Sub.cons rfl (Sub.cons rfl (Sub.nil _)))), (MSub.cons (by repeat (first | exact Pick.here _ | apply Pick.there)) (MSub.nil _)), ?_, ?_⟩
      · skip
        show i + 1 ≤ x1.length
        omega
      · skip
        show x1.length - (i + 1) < x1.length - i
        omega
    · skip
      refine W_exit ?_
      refine W_seq ?_
      refine W_region ?_
      refine L_move rfl rfl ?_
      refine L_assign rfl rfl ?_
      refine L_nil ?_
      refine W_ret ?_
      -- return 1 (R9)
      have hk2 : x1.length ≤ i := by simpa using hc2
      rw [half_all k0 hk2]
      refine res1 rfl (ResOK.tmp rfl) ⟨?_, rfl⟩ (MSub.cons (by repeat (first | exact Pick.here _ | apply Pick.there)) (MSub.nil _))
      have hk2 : x1.length ≤ i := by simpa using hc2
      rw [List.take_of_length_le hk2]; rfl

theorem markUps_spec (w : World) (t1 : T_Ups) (k0 : Nat) (hk0 : 0 < k0) (hb : k0 + Mv.cnt t1 < 9223372036854775807) : Spec Tryz.prog 16 [.agg (GT.cells t1).toArray, .int .i64 (k0 : Int)].toArray w [treeH t1] (fun v M => v = .int .i64 ((k0 + Mv.cnt t1 : Nat) : Int) ∧ M = [treeH (Mv.mkd k0 t1)]) := by
  obtain ⟨a1, a2⟩ := t1
  simp only [mv_cnt_pair, mv_cnt_int, mv_cnt_bool, mv_cnt_str, mv_cnt_TL, mv_pair, mv_int, mv_bool, mv_str, mv_TL, Nat.zero_add, Nat.add_zero, ← Nat.add_assoc] at hb ⊢
  change Spec _ _ [Value.agg #[.int .i64 a1, a2.hdr], .int .i64 (k0 : Int)].toArray w _ _
  refine Spec.intro Tryz.func16 rfl Tryz.ntmps16 rfl ?_
  refine W_seq ?_
  refine W_region ?_
  refine L_box rfl rfl (fun bk2 => ?_)
  refine L_assign rfl rfl ?_
  refine L_nil ?_
  refine W_seq ?_
  refine W_region ?_
  refine L_fieldAddr rfl rfl fld39_1 ?_
  refine L_load rfl rfl (by first | exact RdC.blk (by repeat (first | exact List.Mem.head _ | apply List.Mem.tail))) one37 rfl ?_
  refine L_move rfl rfl ?_
  refine L_conv (fun w h => show Holds _ _ _ w from (frontPick (Pick.there _ (Pick.here _)) (tree_pair (frontPick (x := treeH ((a1, a2) : T_Ups)) (by repeat (first | exact Pick.here _ | apply Pick.there)) h)))) ?_
  refine L_call1 rfl fn39 rfl (Pick.here _) (by exact fun w hw => markUpS_spec w a2 (k0) (by omega) (by omega)) ?_
  rintro v M1 ⟨hv, rfl⟩
  subst hv
  simp only [List.cons_append, List.nil_append]
  refine L_conv (M' := treeH ((a1, (Mk.mkd k0 a2)) : T_Ups) :: _) (fun w h => (pairPick (Pick.here _) h)) ?_
  refine L_assign rfl rfl ?_
  refine L_nil ?_
  refine W_seq ?_
  refine W_region ?_
  refine L_move rfl rfl ?_
  refine L_assign rfl rfl ?_
  refine L_nil ?_
  refine W_ret ?_
  -- return 1 (R2)
  refine res1 rfl (ResOK.tmp rfl) ⟨rfl, rfl⟩ (MSub.cons (by repeat (first | exact Pick.here _ | apply Pick.there)) (MSub.nil _))

end Go.Proofs.SL
