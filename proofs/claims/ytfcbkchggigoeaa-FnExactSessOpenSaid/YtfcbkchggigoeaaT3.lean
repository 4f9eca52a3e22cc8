import Derived.Test.YtfcbkchggigoeaaBaseB
import Derived.Test.YtfcbkchggigoeaaRows
namespace Go.Proofs.SL
open Go
abbrev T_Sess := Int × Int × Int × (TL ByteArray)
abbrev T_Desks := Int × Int × (TL T_Sess)
theorem el73 : elOf Try.prog 73 = some (9, 1, 16, [.string ByteArray.empty]) := by kernel_rfl
theorem one9 : oneOf Try.prog 9 = true := by kernel_rfl
theorem el39 : elOf Try.prog 39 = some (75, 4, 48, [.int .i64 0, .int .i64 0, .int .i64 0, .slice none 0 0]) := by kernel_rfl
theorem agg75 : aggOf Try.prog 75 = some 4 := by kernel_rfl
theorem el56 : elOf Try.prog 56 = some (3, 1, 8, [.int .i64 0]) := by kernel_rfl
theorem one3 : oneOf Try.prog 3 = true := by kernel_rfl
theorem mix : Try.prog.follows .mixedOrders = true := by kernel_rfl
theorem fld75_0 : fldOf Try.prog 75 0 = some 0 := by kernel_rfl
theorem fld75_1 : fldOf Try.prog 75 1 = some 1 := by kernel_rfl
theorem fld75_2 : fldOf Try.prog 75 2 = some 2 := by kernel_rfl
theorem fld75_3 : fldOf Try.prog 75 3 = some 3 := by kernel_rfl
theorem one73 : oneOf Try.prog 73 = true := by kernel_rfl
theorem fn74 : IsFn Try.prog 74 := ⟨_, Try.func74, by kernel_rfl, rfl⟩
theorem fn62 : IsFn Try.prog 62 := ⟨_, Try.func62, by kernel_rfl, rfl⟩
theorem fld41_0 : fldOf Try.prog 41 0 = some 0 := by kernel_rfl
theorem fld41_1 : fldOf Try.prog 41 1 = some 1 := by kernel_rfl
theorem fld41_2 : fldOf Try.prog 41 2 = some 2 := by kernel_rfl
theorem one39 : oneOf Try.prog 39 = true := by kernel_rfl
theorem fn47 : IsFn Try.prog 47 := ⟨_, Try.func47, by kernel_rfl, rfl⟩
theorem str9 : isStr Try.prog 9 = true := by kernel_rfl
theorem fld92_3 : fldOf Try.prog 92 3 = some 3 := by kernel_rfl
theorem fn72 : IsFn Try.prog 72 := ⟨_, Try.func72, by kernel_rfl, rfl⟩
theorem el34 : elOf Try.prog 34 = some (92, 4, 48, [.int .i64 0, .int .i64 0, .int .i64 0, .slice none 0 0]) := by kernel_rfl
theorem agg92 : aggOf Try.prog 92 = some 4 := by kernel_rfl
theorem fn60 : IsFn Try.prog 60 := ⟨_, Try.func60, by kernel_rfl, rfl⟩
theorem fld36_2 : fldOf Try.prog 36 2 = some 2 := by kernel_rfl
theorem one34 : oneOf Try.prog 34 = true := by kernel_rfl
theorem fn43 : IsFn Try.prog 43 := ⟨_, Try.func43, by kernel_rfl, rfl⟩
theorem zero75 : zeroOf Try.prog 75 = some [.int .i64 0, .int .i64 0, .int .i64 0, .slice none 0 0] := by kernel_rfl
theorem fld92_0 : fldOf Try.prog 92 0 = some 0 := by kernel_rfl
theorem fld92_1 : fldOf Try.prog 92 1 = some 1 := by kernel_rfl
theorem fld92_2 : fldOf Try.prog 92 2 = some 2 := by kernel_rfl
theorem fn73 : IsFn Try.prog 73 := ⟨_, Try.func73, by kernel_rfl, rfl⟩
theorem fn61 : IsFn Try.prog 61 := ⟨_, Try.func61, by kernel_rfl, rfl⟩
theorem zero41 : zeroOf Try.prog 41 = some [.int .i64 0, .int .i64 0, .slice none 0 0] := by kernel_rfl
theorem fld36_0 : fldOf Try.prog 36 0 = some 0 := by kernel_rfl
theorem fld36_1 : fldOf Try.prog 36 1 = some 1 := by kernel_rfl
theorem fn44 : IsFn Try.prog 44 := ⟨_, Try.func44, by kernel_rfl, rfl⟩
theorem agg41 : aggOf Try.prog 41 = some 3 := by kernel_rfl
theorem eqStringS_spec (w : World) (t1 t2 : TL ByteArray) (h1 : GT.rd w [] t1) (h2 : GT.rd w [] t2) : Spec Try.prog 74 [t1.hdr, t2.hdr].toArray w [] (IsV (.bool (eqB (GT.dat t1) (GT.dat t2)))) := by
  obtain ⟨a1, c1, e1, x1, y1⟩ := t1
  obtain ⟨a2, c2, e2, x2, y2⟩ := t2
  have hm1 : x1.length ≤ 9223372036854775807 := rd_len h1
  have hm2 : x2.length ≤ 9223372036854775807 := rd_len h2
  dsimp only [TL.hdr]
  refine Spec.intro Try.func74 rfl Try.ntmps74 rfl ?_
  refine W_seq ?_
  refine W_region ?_
  refine L_assign rfl rfl ?_
  refine L_nil ?_
  refine W_seq ?_
  refine W_seq ?_
  refine W_region ?_
  refine L_move rfl rfl ?_
  refine L_lenS rfl rfl el73 ?_
  refine L_move rfl rfl ?_
  refine L_lenS rfl rfl el73 ?_
  refine L_binV rfl rfl rfl bv_neq ?_
  refine L_nil ?_
  refine W_weaken (l' := [(0, _), (1, _), (10, _)]) (Sub.cons rfl (Sub.cons rfl (Sub.cons rfl (Sub.nil _)))) (MSub.refl _) ?_
  refine W_cond rfl (fun hc1 => ?_) (fun hc1 => ?_)
  · skip
    refine W_seq ?_
    refine W_region ?_
    refine L_assign rfl rfl ?_
    refine L_nil ?_
    refine W_ret ?_
    -- return 1 (R2)
    refine res1 rfl (ResOK.tmp rfl) ⟨?_, rfl⟩ (MSub.nil _)
    refine congrArg Value.bool (Eq.symm (eqB_false.2 fun e => ?_))
    simp at hc1
    exact hc1 (by have := congrArg List.length e; simp [dat_TL] at this; omega)
  · skip
    have hl : x1.length = x2.length := by simp at hc1; omega
    refine W_skip ?_
    refine W_seq ?_
    refine W_seq ?_
    refine W_region ?_
    refine L_assign rfl rfl ?_
    refine L_nil ?_
    refine W_block ?_
    refine W_loopC (σ := Nat) 0 (fun (k : Nat) => [(5, .int .i64 (k : Int))]) (fun (k : Nat) => []) (fun (k : Nat) => k ≤ x1.length ∧ (x1.map GT.dat).take k = (x2.map GT.dat).take k) (fun (k : Nat) => x1.length - k) [(0, _), (1, _)] [] ?_ (Sub.cons rfl (Sub.cons rfl (Sub.cons rfl (Sub.nil _)))) (MSub.nil _) ?_
    · skip
      exact ⟨Nat.zero_le _, rfl⟩
    · skip
      rintro k ⟨hk, ht⟩
      refine W_weaken (l' := [(0, _), (1, _), (5, _)]) (Sub.cons rfl (Sub.cons rfl (Sub.cons rfl (Sub.nil _)))) (M' := []) (MSub.nil _) ?_
      refine W_seq ?_
      refine W_seq ?_
      refine W_region ?_
      refine L_move rfl rfl ?_
      refine L_move rfl rfl ?_
      refine L_lenS rfl rfl el73 ?_
      refine L_binV rfl rfl rfl bv_lss ?_
      refine L_nil ?_
      refine W_weaken (l' := [(0, _), (1, _), (5, _), (14, _)]) (Sub.cons rfl (Sub.cons rfl (Sub.cons rfl (Sub.cons rfl (Sub.nil _))))) (MSub.refl _) ?_
      refine W_cond rfl (fun hc4 => ?_) (fun hc4 => ?_)
      · skip
        have hk1 : k < x1.length := by simpa using hc4
        obtain ⟨g1, o1, rfl⟩ := rd_addr h1 hk1
        obtain ⟨g2, o2, rfl⟩ := rd_addr (k := k) h2 (show k < x2.length by omega)
        obtain ⟨u1, hu1⟩ := getEl hk1
        obtain ⟨u2, hu2⟩ := getEl (show k < x2.length by omega)
        refine W_skip ?_
        refine W_seq ?_
        refine W_block ?_
        refine W_seq ?_
        refine W_D0 [25] mix (by kernel_rfl) rfl ?_
        refine D_move GC.none (OpV.t rfl) ?_
        refine D_move GC.none (OpV.t rfl) ?_
        refine D_indexAddr _ GC.none (OpV.t rfl) (OpV.t rfl) el73 (fun hg => ⟨rfl, by omega⟩) ?_
        refine D_load0 GC.none (OpV.t rfl) (fun hg => (by first | exact RdC.blk (by repeat (first | exact List.Mem.head _ | apply List.Mem.tail)) | exact RdC.old (Cells.el h1 rfl hu1) | exact RdC.old (Cells.el h2 rfl hu2))) one9 rfl ?_
        refine D_move GC.none (OpV.t rfl) ?_
        refine D_move GC.none (OpV.t rfl) ?_
        refine D_indexAddr _ GC.none (OpV.t rfl) (OpV.t rfl) el73 (fun hg => ⟨rfl, by omega⟩) ?_
        refine D_load0 GC.none (OpV.t rfl) (fun hg => (by first | exact RdC.blk (by repeat (first | exact List.Mem.head _ | apply List.Mem.tail)) | exact RdC.old (Cells.el h1 rfl hu1) | exact RdC.old (Cells.el h2 rfl hu2))) one9 rfl ?_
        refine D_bin GC.none (OpV.t rfl) (OpV.t rfl) (fun hg => bv_sneq) ?_
        refine DV_nil ?_
        refine Give_is rfl rfl ?_
        refine Give_drop rfl ?_
        refine Give_drop rfl ?_
        refine Give_drop rfl ?_
        refine Give_drop rfl ?_
        refine Give_drop rfl ?_
        refine Give_drop rfl ?_
        refine Give_drop rfl ?_
        refine Give_drop rfl ?_
        refine Give_nil ?_
        refine W_weaken (l' := [(0, _), (1, _), (5, _), (25, _)]) (Sub.cons rfl (Sub.cons rfl (Sub.cons rfl (Sub.cons rfl (Sub.nil _))))) (MSub.refl _) ?_
        refine W_cond rfl (fun hc6 => ?_) (fun hc6 => ?_)
        · skip
          refine W_seq ?_
          refine W_region ?_
          refine L_assign rfl rfl ?_
          refine L_nil ?_
          refine W_ret ?_
          -- return 2 (R7)
          refine res1 rfl (ResOK.tmp rfl) ⟨?_, rfl⟩ (MSub.nil _)
          refine congrArg Value.bool (Eq.symm (eqB_false.2 fun e => ?_))
          simp at hc6
          replace e : x1.map GT.dat = x2.map GT.dat := e
          have e2 := congrArg (fun l => l[k]?) e
          simp only [List.getElem?_map, hu1, hu2, Option.map_some, Option.some.injEq] at e2
          exact hc6 (by simpa [dat_int, dat_str, dat_bool] using e2)
        · skip
          refine W_skip ?_
          refine W_region ?_
          refine L_move rfl rfl ?_
          refine L_binV rfl rfl rfl (bv_addR (by unfold inR; omega)) ?_
          refine L_assign rfl rfl ?_
          refine L_nil ?_
          refine ⟨k + 1, (Sub.cons rfl (Sub.cons rfl (Sub.cons rfl (Sub.nil _)))), (MSub.nil _), ?_, ?_⟩
          · skip
            exact ⟨by omega, take_succ_eq ht (by rw [List.getElem?_map, hu1]; rfl) (by rw [List.getElem?_map, hu2]; rfl) (by simpa [dat_int, dat_str, dat_bool] using hc6)⟩
          · skip
            (try dsimp only); omega
      · skip
        refine W_exit ?_
        refine W_seq ?_
        refine W_region ?_
        refine L_assign rfl rfl ?_
        refine L_nil ?_
        refine W_ret ?_
        -- return 3 (R8)
        refine res1 rfl (ResOK.tmp rfl) ⟨?_, rfl⟩ (MSub.nil _)
        refine congrArg Value.bool (Eq.symm (eqB_true.2 ?_))
        have hk2 : x1.length ≤ k := by simpa using hc4
        have h3 := ht
        rw [List.take_of_length_le (by simp; omega), List.take_of_length_le (by simp; omega)] at h3
        exact h3

theorem eqSess_spec (w : World) (t1 t2 : T_Sess) (h1 : GT.rd w [] t1) (h2 : GT.rd w [] t2) : Spec Try.prog 62 [.agg (GT.cells t1).toArray, .agg (GT.cells t2).toArray].toArray w [] (IsV (.bool (eqB (GT.dat t1) (GT.dat t2)))) := by
  obtain ⟨a1, a2, a3, a4⟩ := t1
  obtain ⟨b1, b2, b3, b4⟩ := t2
  change Spec _ _ [Value.agg #[.int .i64 a1, .int .i64 a2, .int .i64 a3, a4.hdr], Value.agg #[.int .i64 b1, .int .i64 b2, .int .i64 b3, b4.hdr]].toArray w [] _
  refine Spec.intro Try.func62 rfl Try.ntmps62 rfl ?_
  refine W_seq ?_
  refine W_region ?_
  refine L_box rfl rfl (fun bk2 => ?_)
  refine L_box rfl rfl (fun bk3 => ?_)
  refine L_assign rfl rfl ?_
  refine L_nil ?_
  refine W_seq ?_
  refine W_seq ?_
  refine W_region ?_
  refine L_fieldAddr rfl rfl fld75_0 ?_
  refine L_load rfl rfl (by first | exact RdC.blk (by repeat (first | exact List.Mem.head _ | apply List.Mem.tail))) one3 rfl ?_
  refine L_fieldAddr rfl rfl fld75_0 ?_
  refine L_load rfl rfl (by first | exact RdC.blk (by repeat (first | exact List.Mem.head _ | apply List.Mem.tail))) one3 rfl ?_
  refine L_binV rfl rfl rfl bv_neq ?_
  refine L_nil ?_
  refine W_weaken (l' := [(2, _), (3, _), (9, _)]) (Sub.cons rfl (Sub.cons rfl (Sub.cons rfl (Sub.nil _)))) (MSub.refl _) ?_
  refine W_cond rfl (fun hc1 => ?_) (fun hc1 => ?_)
  · skip
    refine W_seq ?_
    refine W_region ?_
    refine L_assign rfl rfl ?_
    refine L_nil ?_
    refine W_ret ?_
    -- return 1 (R2)
    refine res1 rfl (ResOK.tmp rfl) ⟨?_, rfl⟩ (MSub.nil _)
    clear h1 h2
    first
      | (refine congrArg Value.bool (Eq.symm (eqB_false.2 fun e => ?_)); simp only [dat_pair, dat_int, dat_bool, dat_str, Prod.mk.injEq] at e; simp_all; done)
      | (refine congrArg Value.bool (Eq.symm (eqB_true.2 ?_)); simp only [dat_pair, dat_int, dat_bool, dat_str, Prod.mk.injEq]; simp_all; done)
  · skip
    refine W_skip ?_
    refine W_seq ?_
    refine W_seq ?_
    refine W_region ?_
    refine L_fieldAddr rfl rfl fld75_1 ?_
    refine L_load rfl rfl (by first | exact RdC.blk (by repeat (first | exact List.Mem.head _ | apply List.Mem.tail))) one3 rfl ?_
    refine L_fieldAddr rfl rfl fld75_1 ?_
    refine L_load rfl rfl (by first | exact RdC.blk (by repeat (first | exact List.Mem.head _ | apply List.Mem.tail))) one3 rfl ?_
    refine L_binV rfl rfl rfl bv_neq ?_
    refine L_nil ?_
    refine W_weaken (l' := [(2, _), (3, _), (14, _)]) (Sub.cons rfl (Sub.cons rfl (Sub.cons rfl (Sub.nil _)))) (MSub.refl _) ?_
    refine W_cond rfl (fun hc3 => ?_) (fun hc3 => ?_)
    · skip
      refine W_seq ?_
      refine W_region ?_
      refine L_assign rfl rfl ?_
      refine L_nil ?_
      refine W_ret ?_
      -- return 2 (R4)
      refine res1 rfl (ResOK.tmp rfl) ⟨?_, rfl⟩ (MSub.nil _)
      clear h1 h2
      first
        | (refine congrArg Value.bool (Eq.symm (eqB_false.2 fun e => ?_)); simp only [dat_pair, dat_int, dat_bool, dat_str, Prod.mk.injEq] at e; simp_all; done)
        | (refine congrArg Value.bool (Eq.symm (eqB_true.2 ?_)); simp only [dat_pair, dat_int, dat_bool, dat_str, Prod.mk.injEq]; simp_all; done)
    · skip
      refine W_skip ?_
      refine W_seq ?_
      refine W_seq ?_
      refine W_region ?_
      refine L_fieldAddr rfl rfl fld75_2 ?_
      refine L_load rfl rfl (by first | exact RdC.blk (by repeat (first | exact List.Mem.head _ | apply List.Mem.tail))) one3 rfl ?_
      refine L_fieldAddr rfl rfl fld75_2 ?_
      refine L_load rfl rfl (by first | exact RdC.blk (by repeat (first | exact List.Mem.head _ | apply List.Mem.tail))) one3 rfl ?_
      refine L_binV rfl rfl rfl bv_neq ?_
      refine L_nil ?_
      refine W_weaken (l' := [(2, _), (3, _), (19, _)]) (Sub.cons rfl (Sub.cons rfl (Sub.cons rfl (Sub.nil _)))) (MSub.refl _) ?_
      refine W_cond rfl (fun hc5 => ?_) (fun hc5 => ?_)
      · skip
        refine W_seq ?_
        refine W_region ?_
        refine L_assign rfl rfl ?_
        refine L_nil ?_
        refine W_ret ?_
        -- return 3 (R6)
        refine res1 rfl (ResOK.tmp rfl) ⟨?_, rfl⟩ (MSub.nil _)
        clear h1 h2
        first
          | (refine congrArg Value.bool (Eq.symm (eqB_false.2 fun e => ?_)); simp only [dat_pair, dat_int, dat_bool, dat_str, Prod.mk.injEq] at e; simp_all; done)
          | (refine congrArg Value.bool (Eq.symm (eqB_true.2 ?_)); simp only [dat_pair, dat_int, dat_bool, dat_str, Prod.mk.injEq]; simp_all; done)
      · skip
        refine W_skip ?_
        refine W_seq ?_
        refine W_seq ?_
        refine W_region ?_
        refine L_fieldAddr rfl rfl fld75_3 ?_
        refine L_load rfl rfl (by first | exact RdC.blk (by repeat (first | exact List.Mem.head _ | apply List.Mem.tail))) one73 rfl ?_
        refine L_fieldAddr rfl rfl fld75_3 ?_
        refine L_load rfl rfl (by first | exact RdC.blk (by repeat (first | exact List.Mem.head _ | apply List.Mem.tail))) one73 rfl ?_
        refine L_callX rfl fn74 rfl (by exact fun w hw => eqStringS_spec w _ _ (rd_carry (h1.2.2.2) hw) (rd_carry (h2.2.2.2) hw)) ?_
        refine L_not rfl rfl ?_
        refine L_nil ?_
        refine W_weaken (l' := [(25, _)]) (Sub.cons rfl (Sub.nil _)) (MSub.refl _) ?_
        refine W_cond rfl (fun hc7 => ?_) (fun hc7 => ?_)
        · skip
          refine W_seq ?_
          refine W_region ?_
          refine L_assign rfl rfl ?_
          refine L_nil ?_
          refine W_ret ?_
          -- return 4 (R8)
          refine res1 rfl (ResOK.tmp rfl) ⟨?_, rfl⟩ (MSub.nil _)
          clear h1 h2
          first
            | (refine congrArg Value.bool (Eq.symm (eqB_false.2 fun e => ?_)); simp only [dat_pair, dat_int, dat_bool, dat_str, Prod.mk.injEq] at e; simp_all; done)
            | (refine congrArg Value.bool (Eq.symm (eqB_true.2 ?_)); simp only [dat_pair, dat_int, dat_bool, dat_str, Prod.mk.injEq]; simp_all; done)
        · skip
          refine W_skip ?_
          refine W_seq ?_
          refine W_region ?_
          refine L_assign rfl rfl ?_
          refine L_nil ?_
          refine W_ret ?_
          -- return 5 (R9)
          refine res1 rfl (ResOK.tmp rfl) ⟨?_, rfl⟩ (MSub.nil _)
          clear h1 h2
          first
            | (refine congrArg Value.bool (Eq.symm (eqB_false.2 fun e => ?_)); simp only [dat_pair, dat_int, dat_bool, dat_str, Prod.mk.injEq] at e; simp_all; done)
            | (refine congrArg Value.bool (Eq.symm (eqB_true.2 ?_)); simp only [dat_pair, dat_int, dat_bool, dat_str, Prod.mk.injEq]; simp_all; done)

theorem eqSessS_spec (w : World) (t1 t2 : TL T_Sess) (h1 : GT.rd w [] t1) (h2 : GT.rd w [] t2) : Spec Try.prog 47 [t1.hdr, t2.hdr].toArray w [] (IsV (.bool (eqB (GT.dat t1) (GT.dat t2)))) := by
  obtain ⟨a1, c1, e1, x1, y1⟩ := t1
  obtain ⟨a2, c2, e2, x2, y2⟩ := t2
  have hm1 : x1.length ≤ 9223372036854775807 := rd_len h1
  have hm2 : x2.length ≤ 9223372036854775807 := rd_len h2
  dsimp only [TL.hdr]
  refine Spec.intro Try.func47 rfl Try.ntmps47 rfl ?_
  refine W_seq ?_
  refine W_region ?_
  refine L_assign rfl rfl ?_
  refine L_nil ?_
  refine W_seq ?_
  refine W_seq ?_
  refine W_region ?_
  refine L_move rfl rfl ?_
  refine L_lenS rfl rfl el39 ?_
  refine L_move rfl rfl ?_
  refine L_lenS rfl rfl el39 ?_
  refine L_binV rfl rfl rfl bv_neq ?_
  refine L_nil ?_
  refine W_weaken (l' := [(0, _), (1, _), (10, _)]) (Sub.cons rfl (Sub.cons rfl (Sub.cons rfl (Sub.nil _)))) (MSub.refl _) ?_
  refine W_cond rfl (fun hc1 => ?_) (fun hc1 => ?_)
  · skip
    refine W_seq ?_
    refine W_region ?_
    refine L_assign rfl rfl ?_
    refine L_nil ?_
    refine W_ret ?_
    -- return 1 (R2)
    refine res1 rfl (ResOK.tmp rfl) ⟨?_, rfl⟩ (MSub.nil _)
    refine congrArg Value.bool (Eq.symm (eqB_false.2 fun e => ?_))
    simp at hc1
    exact hc1 (by have := congrArg List.length e; simp [dat_TL] at this; omega)
  · skip
    have hl : x1.length = x2.length := by simp at hc1; omega
    refine W_skip ?_
    refine W_seq ?_
    refine W_seq ?_
    refine W_region ?_
    refine L_assign rfl rfl ?_
    refine L_nil ?_
    refine W_block ?_
    refine W_loopC (σ := Nat) 0 (fun (k : Nat) => [(5, .int .i64 (k : Int))]) (fun (k : Nat) => []) (fun (k : Nat) => k ≤ x1.length ∧ (x1.map GT.dat).take k = (x2.map GT.dat).take k) (fun (k : Nat) => x1.length - k) [(0, _), (1, _)] [] ?_ (Sub.cons rfl (Sub.cons rfl (Sub.cons rfl (Sub.nil _)))) (MSub.nil _) ?_
    · skip
      exact ⟨Nat.zero_le _, rfl⟩
    · skip
      rintro k ⟨hk, ht⟩
      refine W_weaken (l' := [(0, _), (1, _), (5, _)]) (Sub.cons rfl (Sub.cons rfl (Sub.cons rfl (Sub.nil _)))) (M' := []) (MSub.nil _) ?_
      refine W_seq ?_
      refine W_seq ?_
      refine W_region ?_
      refine L_move rfl rfl ?_
      refine L_move rfl rfl ?_
      refine L_lenS rfl rfl el39 ?_
      refine L_binV rfl rfl rfl bv_lss ?_
      refine L_nil ?_
      refine W_weaken (l' := [(0, _), (1, _), (5, _), (14, _)]) (Sub.cons rfl (Sub.cons rfl (Sub.cons rfl (Sub.cons rfl (Sub.nil _))))) (MSub.refl _) ?_
      refine W_cond rfl (fun hc4 => ?_) (fun hc4 => ?_)
      · skip
        have hk1 : k < x1.length := by simpa using hc4
        obtain ⟨g1, o1, rfl⟩ := rd_addr h1 hk1
        obtain ⟨g2, o2, rfl⟩ := rd_addr (k := k) h2 (show k < x2.length by omega)
        obtain ⟨u1, hu1⟩ := getEl hk1
        obtain ⟨u2, hu2⟩ := getEl (show k < x2.length by omega)
        refine W_skip ?_
        refine W_seq ?_
        refine W_block ?_
        refine W_seq ?_
        refine W_D0 [26] mix (by kernel_rfl) rfl ?_
        refine D_move GC.none (OpV.t rfl) ?_
        refine D_move GC.none (OpV.t rfl) ?_
        refine D_indexAddr _ GC.none (OpV.t rfl) (OpV.t rfl) el39 (fun hg => ⟨rfl, by omega⟩) ?_
        refine D_loadW GC.none (OpV.t rfl) (fun hg => (by first | exact RdC.blk (by repeat (first | exact List.Mem.head _ | apply List.Mem.tail)) | exact RdC.old (Cells.el h1 rfl hu1) | exact RdC.old (Cells.el h2 rfl hu2))) (by exact agg75) ?_
        refine D_move GC.none (OpV.t rfl) ?_
        refine D_move GC.none (OpV.t rfl) ?_
        refine D_indexAddr _ GC.none (OpV.t rfl) (OpV.t rfl) el39 (fun hg => ⟨rfl, by omega⟩) ?_
        refine D_loadW GC.none (OpV.t rfl) (fun hg => (by first | exact RdC.blk (by repeat (first | exact List.Mem.head _ | apply List.Mem.tail)) | exact RdC.old (Cells.el h1 rfl hu1) | exact RdC.old (Cells.el h2 rfl hu2))) (by exact agg75) ?_
        refine D_callX GC.none fn62 (OpVs.cons (OpV.t rfl) (OpVs.cons (OpV.t rfl) (OpVs.nil))) (by exact fun hg w F hF hM => (fun w hw => eqSess_spec w _ _ (rd_carry (h1.2.2.1 _ (List.mem_of_getElem? hu1)) hw) (rd_carry (h2.2.2.1 _ (List.mem_of_getElem? hu2)) hw)) w hF) ?_
        refine D_not GC.none (OpV.t rfl) ?_
        refine DV_nil ?_
        refine Give_is rfl rfl ?_
        refine Give_drop rfl ?_
        refine Give_drop rfl ?_
        refine Give_drop rfl ?_
        refine Give_drop rfl ?_
        refine Give_drop rfl ?_
        refine Give_drop rfl ?_
        refine Give_drop rfl ?_
        refine Give_drop rfl ?_
        refine Give_drop rfl ?_
        refine Give_nil ?_
        refine W_weaken (l' := [(0, _), (1, _), (5, _), (26, _)]) (Sub.cons rfl (Sub.cons rfl (Sub.cons rfl (Sub.cons rfl (Sub.nil _))))) (MSub.refl _) ?_
        refine W_cond rfl (fun hc6 => ?_) (fun hc6 => ?_)
        · skip
          refine W_seq ?_
          refine W_region ?_
          refine L_assign rfl rfl ?_
          refine L_nil ?_
          refine W_ret ?_
          -- return 2 (R7)
          refine res1 rfl (ResOK.tmp rfl) ⟨?_, rfl⟩ (MSub.nil _)
          refine congrArg Value.bool (Eq.symm (eqB_false.2 fun e => ?_))
          simp at hc6
          replace e : x1.map GT.dat = x2.map GT.dat := e
          have e2 := congrArg (fun l => l[k]?) e
          simp only [List.getElem?_map, hu1, hu2, Option.map_some, Option.some.injEq] at e2
          exact hc6 (by simpa [dat_int, dat_str, dat_bool] using e2)
        · skip
          refine W_skip ?_
          refine W_region ?_
          refine L_move rfl rfl ?_
          refine L_binV rfl rfl rfl (bv_addR (by unfold inR; omega)) ?_
          refine L_assign rfl rfl ?_
          refine L_nil ?_
          refine ⟨k + 1, (Sub.cons rfl (Sub.cons rfl (Sub.cons rfl (Sub.nil _)))), (MSub.nil _), ?_, ?_⟩
          · skip
            exact ⟨by omega, take_succ_eq ht (by rw [List.getElem?_map, hu1]; rfl) (by rw [List.getElem?_map, hu2]; rfl) (by simpa [dat_int, dat_str, dat_bool] using hc6)⟩
          · skip
            (try dsimp only); omega
      · skip
        refine W_exit ?_
        refine W_seq ?_
        refine W_region ?_
        refine L_assign rfl rfl ?_
        refine L_nil ?_
        refine W_ret ?_
        -- return 3 (R8)
        refine res1 rfl (ResOK.tmp rfl) ⟨?_, rfl⟩ (MSub.nil _)
        refine congrArg Value.bool (Eq.symm (eqB_true.2 ?_))
        have hk2 : x1.length ≤ k := by simpa using hc4
        have h3 := ht
        rw [List.take_of_length_le (by simp; omega), List.take_of_length_le (by simp; omega)] at h3
        exact h3

theorem eqDesks_spec (w : World) (t1 t2 : T_Desks) (h1 : GT.rd w [] t1) (h2 : GT.rd w [] t2) : Spec Try.prog 20 [.agg (GT.cells t1).toArray, .agg (GT.cells t2).toArray].toArray w [] (IsV (.bool (eqB (GT.dat t1) (GT.dat t2)))) := by
  obtain ⟨a1, a2, a3⟩ := t1
  obtain ⟨b1, b2, b3⟩ := t2
  change Spec _ _ [Value.agg #[.int .i64 a1, .int .i64 a2, a3.hdr], Value.agg #[.int .i64 b1, .int .i64 b2, b3.hdr]].toArray w [] _
  refine Spec.intro Try.func20 rfl Try.ntmps20 rfl ?_
  refine W_seq ?_
  refine W_region ?_
  refine L_box rfl rfl (fun bk2 => ?_)
  refine L_box rfl rfl (fun bk3 => ?_)
  refine L_assign rfl rfl ?_
  refine L_nil ?_
  refine W_seq ?_
  refine W_seq ?_
  refine W_region ?_
  refine L_fieldAddr rfl rfl fld41_0 ?_
  refine L_load rfl rfl (by first | exact RdC.blk (by repeat (first | exact List.Mem.head _ | apply List.Mem.tail))) one3 rfl ?_
  refine L_fieldAddr rfl rfl fld41_0 ?_
  refine L_load rfl rfl (by first | exact RdC.blk (by repeat (first | exact List.Mem.head _ | apply List.Mem.tail))) one3 rfl ?_
  refine L_binV rfl rfl rfl bv_neq ?_
  refine L_nil ?_
  refine W_weaken (l' := [(2, _), (3, _), (9, _)]) (Sub.cons rfl (Sub.cons rfl (Sub.cons rfl (Sub.nil _)))) (MSub.refl _) ?_
  refine W_cond rfl (fun hc1 => ?_) (fun hc1 => ?_)
  · skip
    refine W_seq ?_
    refine W_region ?_
    refine L_assign rfl rfl ?_
    refine L_nil ?_
    refine W_ret ?_
    -- return 1 (R2)
    refine res1 rfl (ResOK.tmp rfl) ⟨?_, rfl⟩ (MSub.nil _)
    clear h1 h2
    first
      | (refine congrArg Value.bool (Eq.symm (eqB_false.2 fun e => ?_)); simp only [dat_pair, dat_int, dat_bool, dat_str, Prod.mk.injEq] at e; simp_all; done)
      | (refine congrArg Value.bool (Eq.symm (eqB_true.2 ?_)); simp only [dat_pair, dat_int, dat_bool, dat_str, Prod.mk.injEq]; simp_all; done)
  · skip
    refine W_skip ?_
    refine W_seq ?_
    refine W_seq ?_
    refine W_region ?_
    refine L_fieldAddr rfl rfl fld41_1 ?_
    refine L_load rfl rfl (by first | exact RdC.blk (by repeat (first | exact List.Mem.head _ | apply List.Mem.tail))) one3 rfl ?_
    refine L_fieldAddr rfl rfl fld41_1 ?_
    refine L_load rfl rfl (by first | exact RdC.blk (by repeat (first | exact List.Mem.head _ | apply List.Mem.tail))) one3 rfl ?_
    refine L_binV rfl rfl rfl bv_neq ?_
    refine L_nil ?_
    refine W_weaken (l' := [(2, _), (3, _), (14, _)]) (Sub.cons rfl (Sub.cons rfl (Sub.cons rfl (Sub.nil _)))) (MSub.refl _) ?_
    refine W_cond rfl (fun hc3 => ?_) (fun hc3 => ?_)
    · skip
      refine W_seq ?_
      refine W_region ?_
      refine L_assign rfl rfl ?_
      refine L_nil ?_
      refine W_ret ?_
      -- return 2 (R4)
      refine res1 rfl (ResOK.tmp rfl) ⟨?_, rfl⟩ (MSub.nil _)
      clear h1 h2
      first
        | (refine congrArg Value.bool (Eq.symm (eqB_false.2 fun e => ?_)); simp only [dat_pair, dat_int, dat_bool, dat_str, Prod.mk.injEq] at e; simp_all; done)
        | (refine congrArg Value.bool (Eq.symm (eqB_true.2 ?_)); simp only [dat_pair, dat_int, dat_bool, dat_str, Prod.mk.injEq]; simp_all; done)
    · skip
      refine W_skip ?_
      refine W_seq ?_
      refine W_seq ?_
      refine W_region ?_
      refine L_fieldAddr rfl rfl fld41_2 ?_
      refine L_load rfl rfl (by first | exact RdC.blk (by repeat (first | exact List.Mem.head _ | apply List.Mem.tail))) one39 rfl ?_
      refine L_fieldAddr rfl rfl fld41_2 ?_
      refine L_load rfl rfl (by first | exact RdC.blk (by repeat (first | exact List.Mem.head _ | apply List.Mem.tail))) one39 rfl ?_
      refine L_callX rfl fn47 rfl (by exact fun w hw => eqSessS_spec w _ _ (rd_carry (h1.2.2) hw) (rd_carry (h2.2.2) hw)) ?_
      refine L_not rfl rfl ?_
      refine L_nil ?_
      refine W_weaken (l' := [(20, _)]) (Sub.cons rfl (Sub.nil _)) (MSub.refl _) ?_
      refine W_cond rfl (fun hc5 => ?_) (fun hc5 => ?_)
      · skip
        refine W_seq ?_
        refine W_region ?_
        refine L_assign rfl rfl ?_
        refine L_nil ?_
        refine W_ret ?_
        -- return 3 (R6)
        refine res1 rfl (ResOK.tmp rfl) ⟨?_, rfl⟩ (MSub.nil _)
        clear h1 h2
        first
          | (refine congrArg Value.bool (Eq.symm (eqB_false.2 fun e => ?_)); simp only [dat_pair, dat_int, dat_bool, dat_str, Prod.mk.injEq] at e; simp_all; done)
          | (refine congrArg Value.bool (Eq.symm (eqB_true.2 ?_)); simp only [dat_pair, dat_int, dat_bool, dat_str, Prod.mk.injEq]; simp_all; done)
      · skip
        refine W_skip ?_
        refine W_seq ?_
        refine W_region ?_
        refine L_assign rfl rfl ?_
        refine L_nil ?_
        refine W_ret ?_
        -- return 4 (R7)
        refine res1 rfl (ResOK.tmp rfl) ⟨?_, rfl⟩ (MSub.nil _)
        clear h1 h2
        first
          | (refine congrArg Value.bool (Eq.symm (eqB_false.2 fun e => ?_)); simp only [dat_pair, dat_int, dat_bool, dat_str, Prod.mk.injEq] at e; simp_all; done)
          | (refine congrArg Value.bool (Eq.symm (eqB_true.2 ?_)); simp only [dat_pair, dat_int, dat_bool, dat_str, Prod.mk.injEq]; simp_all; done)

theorem szStringS_spec (w : World) (t1 : TL ByteArray) (left : Int) (hl : 0 ≤ left) (hm : left ≤ 1048576) (h1 : GT.rd w [] t1) : Spec Try.prog 72 [t1.hdr, .int .i64 left].toArray w [] (IsV (.int .i64 (if (Bk.bulk t1 : Int) ≤ left then left - (Bk.bulk t1 : Int) else -1))) := by
  obtain ⟨a1, c1, e1, x1, y1⟩ := t1
  have hm1 : x1.length ≤ 9223372036854775807 := rd_len h1
  rw [bulk_TL]
  dsimp only [TL.hdr]
  refine Spec.intro Try.func72 rfl Try.ntmps72 rfl ?_
  refine W_seq ?_
  refine W_region ?_
  refine L_assign rfl rfl ?_
  refine L_nil ?_
  refine W_seq ?_
  refine W_region ?_
  refine L_move rfl rfl ?_
  refine L_move rfl rfl ?_
  refine L_lenS rfl rfl el73 ?_
  refine L_binV rfl rfl rfl (bv_subR (by unfold inR; omega)) ?_
  refine L_assign rfl rfl ?_
  refine L_nil ?_
  refine W_seq ?_
  refine W_seq ?_
  refine W_region ?_
  refine L_move rfl rfl ?_
  refine L_binV rfl rfl rfl bv_lss ?_
  refine L_nil ?_
  refine W_weaken (l' := [(0, _), (1, _), (11, _)]) (Sub.cons rfl (Sub.cons rfl (Sub.cons rfl (Sub.nil _)))) (MSub.refl _) ?_
  refine W_cond rfl (fun hc2 => ?_) (fun hc2 => ?_)
  · skip
    have hb0 : left - (x1.length : Int) < 0 := by simpa using hc2
    refine W_seq ?_
    refine W_region ?_
    refine L_assign rfl rfl ?_
    refine L_nil ?_
    refine W_ret ?_
    -- return 1 (R3)
    refine res1 rfl (ResOK.tmp rfl) ⟨?_, rfl⟩ (MSub.nil _)
    first
      | (rw [if_neg (by simp only [Int.natCast_add]; omega)]; done)
      | (rw [if_neg (by have := bulks_take_le x1 (k + 1); simp only [Int.natCast_add]; omega)]; done)
      | (have hk2 : x1.length ≤ k := by simpa using hc5
         rw [List.take_of_length_le hk2] at ht ⊢
         rw [if_pos (by simp only [Int.natCast_add]; omega)]; congr 1; simp only [Int.natCast_add]; omega)
  · skip
    have hb0 : ¬ (left - (x1.length : Int) < 0) := by simpa using hc2
    refine W_skip ?_
    refine W_seq ?_
    refine W_seq ?_
    refine W_region ?_
    refine L_assign rfl rfl ?_
    refine L_nil ?_
    refine W_block ?_
    have h0 : left - (x1.length : Int) = left - (x1.length : Int) - (bulks (x1.take 0) : Int) := by simp [bulks]
    rw [h0]
    refine W_loopC (σ := Nat) 0 (fun (k : Nat) => [(1, .int .i64 (left - (x1.length : Int) - (bulks (x1.take k) : Int))), (5, .int .i64 (k : Int))]) (fun (k : Nat) => []) (fun (k : Nat) => k ≤ x1.length ∧ 0 ≤ (left - (x1.length : Int) - (bulks (x1.take k) : Int))) (fun (k : Nat) => x1.length - k) [(0, _)] [] ?_ (Sub.cons rfl (Sub.cons rfl (Sub.cons rfl (Sub.nil _)))) (MSub.nil _) ?_
    · skip
      exact ⟨Nat.zero_le _, by simp [bulks]; omega⟩
    · skip
      rintro k ⟨hk, ht⟩
      refine W_weaken (l' := [(0, _), (1, _), (5, _)]) (Sub.cons rfl (Sub.cons rfl (Sub.cons rfl (Sub.nil _)))) (M' := []) (MSub.nil _) ?_
      refine W_seq ?_
      refine W_seq ?_
      refine W_region ?_
      refine L_move rfl rfl ?_
      refine L_move rfl rfl ?_
      refine L_lenS rfl rfl el73 ?_
      refine L_binV rfl rfl rfl bv_lss ?_
      refine L_nil ?_
      refine W_weaken (l' := [(0, _), (1, _), (5, _), (15, _)]) (Sub.cons rfl (Sub.cons rfl (Sub.cons rfl (Sub.cons rfl (Sub.nil _))))) (MSub.refl _) ?_
      refine W_cond rfl (fun hc5 => ?_) (fun hc5 => ?_)
      · skip
        have hk1 : k < x1.length := by simpa using hc5
        obtain ⟨g1, o1, rfl⟩ := rd_addr h1 hk1
        obtain ⟨u1, hu1⟩ := getEl hk1
        have hbs := bulks_take_succ hu1
        have hble := bulks_take_le x1 (k + 1)
        have hus : u1.size ≤ 9223372036854775807 := h1.2.2.1 _ (List.mem_of_getElem? hu1)
        rw [bulk_str] at hbs
        refine W_skip ?_
        refine W_seq ?_
        refine W_block ?_
        refine W_seq ?_
        refine W_region ?_
        refine L_move rfl rfl ?_
        refine L_move rfl rfl ?_
        refine L_move rfl rfl ?_
        refine L_indexAddr rfl rfl rfl el73 rfl (by omega) ?_
        refine L_load0 rfl rfl (by first | exact RdC.blk (by repeat (first | exact List.Mem.head _ | apply List.Mem.tail)) | exact RdC.old (Cells.el h1 rfl hu1)) one9 rfl ?_
        refine L_lenT rfl rfl str9 ?_
        refine L_binV rfl rfl rfl (bv_subR (by unfold inR; omega)) ?_
        refine L_assign rfl rfl ?_
        refine L_nil ?_
        refine W_seq ?_
        refine W_region ?_
        refine L_move rfl rfl ?_
        refine L_binV rfl rfl rfl bv_lss ?_
        refine L_nil ?_
        refine W_weaken (l' := [(0, _), (1, _), (5, _), (26, _)]) (Sub.cons rfl (Sub.cons rfl (Sub.cons rfl (Sub.cons rfl (Sub.nil _))))) (MSub.refl _) ?_
        refine W_cond rfl (fun hc8 => ?_) (fun hc8 => ?_)
        · skip
          have hb1 : (left - (x1.length : Int) - (bulks (x1.take k) : Int)) - (u1.size : Int) < 0 := by simpa using hc8
          refine W_seq ?_
          refine W_region ?_
          refine L_assign rfl rfl ?_
          refine L_nil ?_
          refine W_ret ?_
          -- return 2 (R9)
          refine res1 rfl (ResOK.tmp rfl) ⟨?_, rfl⟩ (MSub.nil _)
          first
            | (rw [if_neg (by simp only [Int.natCast_add]; omega)]; done)
            | (rw [if_neg (by have := bulks_take_le x1 (k + 1); simp only [Int.natCast_add]; omega)]; done)
            | (have hk2 : x1.length ≤ k := by simpa using hc5
               rw [List.take_of_length_le hk2] at ht ⊢
               rw [if_pos (by simp only [Int.natCast_add]; omega)]; congr 1; simp only [Int.natCast_add]; omega)
        · skip
          have hb1 : ¬ ((left - (x1.length : Int) - (bulks (x1.take k) : Int)) - (u1.size : Int) < 0) := by simpa using hc8
          have hnx : (left - (x1.length : Int) - (bulks (x1.take k) : Int)) - (u1.size : Int) = left - (x1.length : Int) - (bulks (x1.take (k + 1)) : Int) := by rw [hbs]; omega
          rw [hnx]
          refine W_skip ?_
          refine W_region ?_
          refine L_move rfl rfl ?_
          refine L_binV rfl rfl rfl (bv_addR (by unfold inR; omega)) ?_
          refine L_assign rfl rfl ?_
          refine L_nil ?_
          refine ⟨k + 1, (Sub.cons rfl (Sub.cons rfl (Sub.cons rfl (Sub.nil _)))), (MSub.nil _), ?_, ?_⟩
          · skip
            exact ⟨by omega, by omega⟩
          · skip
            (try dsimp only); omega
      · skip
        refine W_exit ?_
        refine W_seq ?_
        refine W_region ?_
        refine L_move rfl rfl ?_
        refine L_assign rfl rfl ?_
        refine L_nil ?_
        refine W_ret ?_
        -- return 3 (R10)
        refine res1 rfl (ResOK.tmp rfl) ⟨?_, rfl⟩ (MSub.nil _)
        first
          | (rw [if_neg (by simp only [Int.natCast_add]; omega)]; done)
          | (rw [if_neg (by have := bulks_take_le x1 (k + 1); simp only [Int.natCast_add]; omega)]; done)
          | (have hk2 : x1.length ≤ k := by simpa using hc5
             rw [List.take_of_length_le hk2] at ht ⊢
             rw [if_pos (by simp only [Int.natCast_add]; omega)]; congr 1; simp only [Int.natCast_add]; omega)

theorem szSess_spec (w : World) (t1 : T_Sess) (left : Int) (hl : 0 ≤ left) (hm : left ≤ 1048576) (h1 : GT.rd w [] t1) : Spec Try.prog 60 [.agg (GT.cells t1).toArray, .int .i64 left].toArray w [] (IsV (.int .i64 (if (Bk.bulk t1 : Int) ≤ left then left - (Bk.bulk t1 : Int) else -1))) := by
  obtain ⟨a1, a2, a3, a4⟩ := t1
  change Spec _ _ [Value.agg #[.int .i64 a1, .int .i64 a2, .int .i64 a3, a4.hdr], .int .i64 left].toArray w [] _
  refine Spec.intro Try.func60 rfl Try.ntmps60 rfl ?_
  refine W_seq ?_
  refine W_region ?_
  refine L_box rfl rfl (fun bk2 => ?_)
  refine L_assign rfl rfl ?_
  refine L_nil ?_
  refine W_seq ?_
  refine W_region ?_
  refine L_fieldAddr rfl rfl fld92_3 ?_
  refine L_load rfl rfl (by first | exact RdC.blk (by repeat (first | exact List.Mem.head _ | apply List.Mem.tail))) one73 rfl ?_
  refine L_move rfl rfl ?_
  refine L_callX rfl fn72 rfl (by exact fun w hw => szStringS_spec w _ (left) (by omega) (by omega) (rd_carry (h1.2.2.2) hw)) ?_
  refine L_assign rfl rfl ?_
  refine L_nil ?_
  refine W_seq ?_
  refine W_seq ?_
  refine W_region ?_
  refine L_move rfl rfl ?_
  refine L_binV rfl rfl rfl bv_lss ?_
  refine L_nil ?_
  refine W_weaken (l' := [(1, _), (10, _)]) (Sub.cons rfl (Sub.cons rfl (Sub.nil _))) (MSub.refl _) ?_
  refine W_cond rfl (fun hc2 => ?_) (fun hc2 => ?_)
  · skip
    have hb3 : ¬ ((Bk.bulk a4 : Int) ≤ left) := by
      intro hn
      rw [if_pos hn] at hc2; simp at hc2; omega
    refine W_seq ?_
    refine W_region ?_
    refine L_assign rfl rfl ?_
    refine L_nil ?_
    refine W_ret ?_
    -- return 1 (R3)
    refine res1 rfl (ResOK.tmp rfl) ⟨?_, rfl⟩ (MSub.nil _)
    simp only [bulk_pair, bulk_int, bulk_bool, bulk_str, Int.natCast_add, Int.natCast_zero] at *
    first
      | (rw [if_pos (by omega)]; congr 1; omega)
      | (rw [if_neg (by omega)])
  · skip
    have hb3 : (Bk.bulk a4 : Int) ≤ left := by
      rcases Int.decLt (left) (Bk.bulk a4 : Int) with hn | hn
      · omega
      · rw [if_neg (by omega)] at hc2; simp at hc2
    rw [if_pos hb3]
    refine W_skip ?_
    refine W_seq ?_
    refine W_region ?_
    refine L_move rfl rfl ?_
    refine L_assign rfl rfl ?_
    refine L_nil ?_
    refine W_ret ?_
    -- return 2 (R4)
    refine res1 rfl (ResOK.tmp rfl) ⟨?_, rfl⟩ (MSub.nil _)
    simp only [bulk_pair, bulk_int, bulk_bool, bulk_str, Int.natCast_add, Int.natCast_zero] at *
    first
      | (rw [if_pos (by omega)]; congr 1; omega)
      | (rw [if_neg (by omega)])

theorem szSessS_spec (w : World) (t1 : TL T_Sess) (left : Int) (hl : 0 ≤ left) (hm : left ≤ 1048576) (h1 : GT.rd w [] t1) : Spec Try.prog 43 [t1.hdr, .int .i64 left].toArray w [] (IsV (.int .i64 (if (Bk.bulk t1 : Int) ≤ left then left - (Bk.bulk t1 : Int) else -1))) := by
  obtain ⟨a1, c1, e1, x1, y1⟩ := t1
  have hm1 : x1.length ≤ 9223372036854775807 := rd_len h1
  rw [bulk_TL]
  dsimp only [TL.hdr]
  refine Spec.intro Try.func43 rfl Try.ntmps43 rfl ?_
  refine W_seq ?_
  refine W_region ?_
  refine L_assign rfl rfl ?_
  refine L_nil ?_
  refine W_seq ?_
  refine W_region ?_
  refine L_move rfl rfl ?_
  refine L_move rfl rfl ?_
  refine L_lenS rfl rfl el34 ?_
  refine L_binV rfl rfl rfl (bv_subR (by unfold inR; omega)) ?_
  refine L_assign rfl rfl ?_
  refine L_nil ?_
  refine W_seq ?_
  refine W_seq ?_
  refine W_region ?_
  refine L_move rfl rfl ?_
  refine L_binV rfl rfl rfl bv_lss ?_
  refine L_nil ?_
  refine W_weaken (l' := [(0, _), (1, _), (11, _)]) (Sub.cons rfl (Sub.cons rfl (Sub.cons rfl (Sub.nil _)))) (MSub.refl _) ?_
  refine W_cond rfl (fun hc2 => ?_) (fun hc2 => ?_)
  · skip
    have hb0 : left - (x1.length : Int) < 0 := by simpa using hc2
    refine W_seq ?_
    refine W_region ?_
    refine L_assign rfl rfl ?_
    refine L_nil ?_
    refine W_ret ?_
    -- return 1 (R3)
    refine res1 rfl (ResOK.tmp rfl) ⟨?_, rfl⟩ (MSub.nil _)
    first
      | (rw [if_neg (by simp only [Int.natCast_add]; omega)]; done)
      | (rw [if_neg (by have := bulks_take_le x1 (k + 1); simp only [Int.natCast_add]; omega)]; done)
      | (have hk2 : x1.length ≤ k := by simpa using hc5
         rw [List.take_of_length_le hk2] at ht ⊢
         rw [if_pos (by simp only [Int.natCast_add]; omega)]; congr 1; simp only [Int.natCast_add]; omega)
  · skip
    have hb0 : ¬ (left - (x1.length : Int) < 0) := by simpa using hc2
    refine W_skip ?_
    refine W_seq ?_
    refine W_seq ?_
    refine W_region ?_
    refine L_assign rfl rfl ?_
    refine L_nil ?_
    refine W_block ?_
    have h0 : left - (x1.length : Int) = left - (x1.length : Int) - (bulks (x1.take 0) : Int) := by simp [bulks]
    rw [h0]
    refine W_loopC (σ := Nat) 0 (fun (k : Nat) => [(1, .int .i64 (left - (x1.length : Int) - (bulks (x1.take k) : Int))), (5, .int .i64 (k : Int))]) (fun (k : Nat) => []) (fun (k : Nat) => k ≤ x1.length ∧ 0 ≤ (left - (x1.length : Int) - (bulks (x1.take k) : Int))) (fun (k : Nat) => x1.length - k) [(0, _)] [] ?_ (Sub.cons rfl (Sub.cons rfl (Sub.cons rfl (Sub.nil _)))) (MSub.nil _) ?_
    · skip
      exact ⟨Nat.zero_le _, by simp [bulks]; omega⟩
    · skip
      rintro k ⟨hk, ht⟩
      refine W_weaken (l' := [(0, _), (1, _), (5, _)]) (Sub.cons rfl (Sub.cons rfl (Sub.cons rfl (Sub.nil _)))) (M' := []) (MSub.nil _) ?_
      refine W_seq ?_
      refine W_seq ?_
      refine W_region ?_
      refine L_move rfl rfl ?_
      refine L_move rfl rfl ?_
      refine L_lenS rfl rfl el34 ?_
      refine L_binV rfl rfl rfl bv_lss ?_
      refine L_nil ?_
      refine W_weaken (l' := [(0, _), (1, _), (5, _), (15, _)]) (Sub.cons rfl (Sub.cons rfl (Sub.cons rfl (Sub.cons rfl (Sub.nil _))))) (MSub.refl _) ?_
      refine W_cond rfl (fun hc5 => ?_) (fun hc5 => ?_)
      · skip
        have hk1 : k < x1.length := by simpa using hc5
        obtain ⟨g1, o1, rfl⟩ := rd_addr h1 hk1
        obtain ⟨u1, hu1⟩ := getEl hk1
        have hbs := bulks_take_succ hu1
        have hble := bulks_take_le x1 (k + 1)
        refine W_skip ?_
        refine W_seq ?_
        refine W_block ?_
        refine W_seq ?_
        refine W_region ?_
        refine L_move rfl rfl ?_
        refine L_move rfl rfl ?_
        refine L_indexAddr rfl rfl rfl el34 rfl (by omega) ?_
        refine L_loadW rfl rfl (by first | exact RdC.blk (by repeat (first | exact List.Mem.head _ | apply List.Mem.tail)) | exact RdC.old (Cells.el h1 rfl hu1)) (by exact agg92) ?_
        refine L_move rfl rfl ?_
        refine L_callX rfl fn60 rfl (by exact fun w hw => szSess_spec w _ _ (by omega) (by omega) (rd_carry (h1.2.2.1 _ (List.mem_of_getElem? hu1)) hw)) ?_
        refine L_assign rfl rfl ?_
        refine L_nil ?_
        refine W_seq ?_
        refine W_region ?_
        refine L_move rfl rfl ?_
        refine L_binV rfl rfl rfl bv_lss ?_
        refine L_nil ?_
        refine W_weaken (l' := [(0, _), (1, _), (5, _), (25, _)]) (Sub.cons rfl (Sub.cons rfl (Sub.cons rfl (Sub.cons rfl (Sub.nil _))))) (MSub.refl _) ?_
        refine W_cond rfl (fun hc8 => ?_) (fun hc8 => ?_)
        · skip
          have hb1 : ¬ ((Bk.bulk u1 : Int) ≤ (left - (x1.length : Int) - (bulks (x1.take k) : Int))) := by
            intro hn
            rw [if_pos hn] at hc8; simp at hc8; omega
          refine W_seq ?_
          refine W_region ?_
          refine L_assign rfl rfl ?_
          refine L_nil ?_
          refine W_ret ?_
          -- return 2 (R9)
          refine res1 rfl (ResOK.tmp rfl) ⟨?_, rfl⟩ (MSub.nil _)
          first
            | (rw [if_neg (by simp only [Int.natCast_add]; omega)]; done)
            | (rw [if_neg (by have := bulks_take_le x1 (k + 1); simp only [Int.natCast_add]; omega)]; done)
            | (have hk2 : x1.length ≤ k := by simpa using hc5
               rw [List.take_of_length_le hk2] at ht ⊢
               rw [if_pos (by simp only [Int.natCast_add]; omega)]; congr 1; simp only [Int.natCast_add]; omega)
        · skip
          have hb1 : (Bk.bulk u1 : Int) ≤ (left - (x1.length : Int) - (bulks (x1.take k) : Int)) := by
            rcases Int.decLt (left - (x1.length : Int) - (bulks (x1.take k) : Int)) (Bk.bulk u1 : Int) with hn | hn
            · omega
            · rw [if_neg (by omega)] at hc8; simp at hc8
          rw [if_pos hb1]
          have hnx : (left - (x1.length : Int) - (bulks (x1.take k) : Int)) - (Bk.bulk u1 : Int) = left - (x1.length : Int) - (bulks (x1.take (k + 1)) : Int) := by rw [hbs]; omega
          rw [hnx]
          refine W_skip ?_
          refine W_region ?_
          refine L_move rfl rfl ?_
          refine L_binV rfl rfl rfl (bv_addR (by unfold inR; omega)) ?_
          refine L_assign rfl rfl ?_
          refine L_nil ?_
          refine ⟨k + 1, (Sub.cons rfl (Sub.cons rfl (Sub.cons rfl (Sub.nil _)))), (MSub.nil _), ?_, ?_⟩
          · skip
            exact ⟨by omega, by omega⟩
          · skip
            (try dsimp only); omega
      · skip
        refine W_exit ?_
        refine W_seq ?_
        refine W_region ?_
        refine L_move rfl rfl ?_
        refine L_assign rfl rfl ?_
        refine L_nil ?_
        refine W_ret ?_
        -- return 3 (R10)
        refine res1 rfl (ResOK.tmp rfl) ⟨?_, rfl⟩ (MSub.nil _)
        first
          | (rw [if_neg (by simp only [Int.natCast_add]; omega)]; done)
          | (rw [if_neg (by have := bulks_take_le x1 (k + 1); simp only [Int.natCast_add]; omega)]; done)
          | (have hk2 : x1.length ≤ k := by simpa using hc5
             rw [List.take_of_length_le hk2] at ht ⊢
             rw [if_pos (by simp only [Int.natCast_add]; omega)]; congr 1; simp only [Int.natCast_add]; omega)

theorem szDesks_spec (w : World) (t1 : T_Desks) (left : Int) (hl : 0 ≤ left) (hm : left ≤ 1048576) (h1 : GT.rd w [] t1) : Spec Try.prog 16 [.agg (GT.cells t1).toArray, .int .i64 left].toArray w [] (IsV (.int .i64 (if (Bk.bulk t1 : Int) ≤ left then left - (Bk.bulk t1 : Int) else -1))) := by
  obtain ⟨a1, a2, a3⟩ := t1
  change Spec _ _ [Value.agg #[.int .i64 a1, .int .i64 a2, a3.hdr], .int .i64 left].toArray w [] _
  refine Spec.intro Try.func16 rfl Try.ntmps16 rfl ?_
  refine W_seq ?_
  refine W_region ?_
  refine L_box rfl rfl (fun bk2 => ?_)
  refine L_assign rfl rfl ?_
  refine L_nil ?_
  refine W_seq ?_
  refine W_region ?_
  refine L_fieldAddr rfl rfl fld36_2 ?_
  refine L_load rfl rfl (by first | exact RdC.blk (by repeat (first | exact List.Mem.head _ | apply List.Mem.tail))) one34 rfl ?_
  refine L_move rfl rfl ?_
  refine L_callX rfl fn43 rfl (by exact fun w hw => szSessS_spec w _ (left) (by omega) (by omega) (rd_carry (h1.2.2) hw)) ?_
  refine L_assign rfl rfl ?_
  refine L_nil ?_
  refine W_seq ?_
  refine W_seq ?_
  refine W_region ?_
  refine L_move rfl rfl ?_
  refine L_binV rfl rfl rfl bv_lss ?_
  refine L_nil ?_
  refine W_weaken (l' := [(1, _), (10, _)]) (Sub.cons rfl (Sub.cons rfl (Sub.nil _))) (MSub.refl _) ?_
  refine W_cond rfl (fun hc2 => ?_) (fun hc2 => ?_)
  · skip
    have hb2 : ¬ ((Bk.bulk a3 : Int) ≤ left) := by
      intro hn
      rw [if_pos hn] at hc2; simp at hc2; omega
    refine W_seq ?_
    refine W_region ?_
    refine L_assign rfl rfl ?_
    refine L_nil ?_
    refine W_ret ?_
    -- return 1 (R3)
    refine res1 rfl (ResOK.tmp rfl) ⟨?_, rfl⟩ (MSub.nil _)
    simp only [bulk_pair, bulk_int, bulk_bool, bulk_str, Int.natCast_add, Int.natCast_zero] at *
    first
      | (rw [if_pos (by omega)]; congr 1; omega)
      | (rw [if_neg (by omega)])
  · skip
    have hb2 : (Bk.bulk a3 : Int) ≤ left := by
      rcases Int.decLt (left) (Bk.bulk a3 : Int) with hn | hn
      · omega
      · rw [if_neg (by omega)] at hc2; simp at hc2
    rw [if_pos hb2]
    refine W_skip ?_
    refine W_seq ?_
    refine W_region ?_
    refine L_move rfl rfl ?_
    refine L_assign rfl rfl ?_
    refine L_nil ?_
    refine W_ret ?_
    -- return 2 (R4)
    refine res1 rfl (ResOK.tmp rfl) ⟨?_, rfl⟩ (MSub.nil _)
    simp only [bulk_pair, bulk_int, bulk_bool, bulk_str, Int.natCast_add, Int.natCast_zero] at *
    first
      | (rw [if_pos (by omega)]; congr 1; omega)
      | (rw [if_neg (by omega)])

theorem eqIntS_spec (w : World) (t1 t2 : TL Int) (h1 : GT.rd w [] t1) (h2 : GT.rd w [] t2) : Spec Try.prog 28 [t1.hdr, t2.hdr].toArray w [] (IsV (.bool (eqB (GT.dat t1) (GT.dat t2)))) := by
  obtain ⟨a1, c1, e1, x1, y1⟩ := t1
  obtain ⟨a2, c2, e2, x2, y2⟩ := t2
  have hm1 : x1.length ≤ 9223372036854775807 := rd_len h1
  have hm2 : x2.length ≤ 9223372036854775807 := rd_len h2
  dsimp only [TL.hdr]
  refine Spec.intro Try.func28 rfl Try.ntmps28 rfl ?_
  refine W_seq ?_
  refine W_region ?_
  refine L_assign rfl rfl ?_
  refine L_nil ?_
  refine W_seq ?_
  refine W_seq ?_
  refine W_region ?_
  refine L_move rfl rfl ?_
  refine L_lenS rfl rfl el56 ?_
  refine L_move rfl rfl ?_
  refine L_lenS rfl rfl el56 ?_
  refine L_binV rfl rfl rfl bv_neq ?_
  refine L_nil ?_
  refine W_weaken (l' := [(0, _), (1, _), (10, _)]) (Sub.cons rfl (Sub.cons rfl (Sub.cons rfl (Sub.nil _)))) (MSub.refl _) ?_
  refine W_cond rfl (fun hc1 => ?_) (fun hc1 => ?_)
  · skip
    refine W_seq ?_
    refine W_region ?_
    refine L_assign rfl rfl ?_
    refine L_nil ?_
    refine W_ret ?_
    -- return 1 (R2)
    refine res1 rfl (ResOK.tmp rfl) ⟨?_, rfl⟩ (MSub.nil _)
    refine congrArg Value.bool (Eq.symm (eqB_false.2 fun e => ?_))
    simp at hc1
    exact hc1 (by have := congrArg List.length e; simp [dat_TL] at this; omega)
  · skip
    have hl : x1.length = x2.length := by simp at hc1; omega
    refine W_skip ?_
    refine W_seq ?_
    refine W_seq ?_
    refine W_region ?_
    refine L_assign rfl rfl ?_
    refine L_nil ?_
    refine W_block ?_
    refine W_loopC (σ := Nat) 0 (fun (k : Nat) => [(5, .int .i64 (k : Int))]) (fun (k : Nat) => []) (fun (k : Nat) => k ≤ x1.length ∧ (x1.map GT.dat).take k = (x2.map GT.dat).take k) (fun (k : Nat) => x1.length - k) [(0, _), (1, _)] [] ?_ (Sub.cons rfl (Sub.cons rfl (Sub.cons rfl (Sub.nil _)))) (MSub.nil _) ?_
    · skip
      exact ⟨Nat.zero_le _, rfl⟩
    · skip
      rintro k ⟨hk, ht⟩
      refine W_weaken (l' := [(0, _), (1, _), (5, _)]) (Sub.cons rfl (Sub.cons rfl (Sub.cons rfl (Sub.nil _)))) (M' := []) (MSub.nil _) ?_
      refine W_seq ?_
      refine W_seq ?_
      refine W_region ?_
      refine L_move rfl rfl ?_
      refine L_move rfl rfl ?_
      refine L_lenS rfl rfl el56 ?_
      refine L_binV rfl rfl rfl bv_lss ?_
      refine L_nil ?_
      refine W_weaken (l' := [(0, _), (1, _), (5, _), (14, _)]) (Sub.cons rfl (Sub.cons rfl (Sub.cons rfl (Sub.cons rfl (Sub.nil _))))) (MSub.refl _) ?_
      refine W_cond rfl (fun hc4 => ?_) (fun hc4 => ?_)
      · skip
        have hk1 : k < x1.length := by simpa using hc4
        obtain ⟨g1, o1, rfl⟩ := rd_addr h1 hk1
        obtain ⟨g2, o2, rfl⟩ := rd_addr (k := k) h2 (show k < x2.length by omega)
        obtain ⟨u1, hu1⟩ := getEl hk1
        obtain ⟨u2, hu2⟩ := getEl (show k < x2.length by omega)
        refine W_skip ?_
        refine W_seq ?_
        refine W_block ?_
        refine W_seq ?_
        refine W_D0 [25] mix (by kernel_rfl) rfl ?_
        refine D_move GC.none (OpV.t rfl) ?_
        refine D_move GC.none (OpV.t rfl) ?_
        refine D_indexAddr _ GC.none (OpV.t rfl) (OpV.t rfl) el56 (fun hg => ⟨rfl, by omega⟩) ?_
        refine D_load0 GC.none (OpV.t rfl) (fun hg => (by first | exact RdC.blk (by repeat (first | exact List.Mem.head _ | apply List.Mem.tail)) | exact RdC.old (Cells.el h1 rfl hu1) | exact RdC.old (Cells.el h2 rfl hu2))) one3 rfl ?_
        refine D_move GC.none (OpV.t rfl) ?_
        refine D_move GC.none (OpV.t rfl) ?_
        refine D_indexAddr _ GC.none (OpV.t rfl) (OpV.t rfl) el56 (fun hg => ⟨rfl, by omega⟩) ?_
        refine D_load0 GC.none (OpV.t rfl) (fun hg => (by first | exact RdC.blk (by repeat (first | exact List.Mem.head _ | apply List.Mem.tail)) | exact RdC.old (Cells.el h1 rfl hu1) | exact RdC.old (Cells.el h2 rfl hu2))) one3 rfl ?_
        refine D_bin GC.none (OpV.t rfl) (OpV.t rfl) (fun hg => bv_neq) ?_
        refine DV_nil ?_
        refine Give_is rfl rfl ?_
        refine Give_drop rfl ?_
        refine Give_drop rfl ?_
        refine Give_drop rfl ?_
        refine Give_drop rfl ?_
        refine Give_drop rfl ?_
        refine Give_drop rfl ?_
        refine Give_drop rfl ?_
        refine Give_drop rfl ?_
        refine Give_nil ?_
        refine W_weaken (l' := [(0, _), (1, _), (5, _), (25, _)]) (Sub.cons rfl (Sub.cons rfl (Sub.cons rfl (Sub.cons rfl (Sub.nil _))))) (MSub.refl _) ?_
        refine W_cond rfl (fun hc6 => ?_) (fun hc6 => ?_)
        · skip
          refine W_seq ?_
          refine W_region ?_
          refine L_assign rfl rfl ?_
          refine L_nil ?_
          refine W_ret ?_
          -- return 2 (R7)
          refine res1 rfl (ResOK.tmp rfl) ⟨?_, rfl⟩ (MSub.nil _)
          refine congrArg Value.bool (Eq.symm (eqB_false.2 fun e => ?_))
          simp at hc6
          replace e : x1.map GT.dat = x2.map GT.dat := e
          have e2 := congrArg (fun l => l[k]?) e
          simp only [List.getElem?_map, hu1, hu2, Option.map_some, Option.some.injEq] at e2
          exact hc6 (by simpa [dat_int, dat_str, dat_bool] using e2)
        · skip
          refine W_skip ?_
          refine W_region ?_
          refine L_move rfl rfl ?_
          refine L_binV rfl rfl rfl (bv_addR (by unfold inR; omega)) ?_
          refine L_assign rfl rfl ?_
          refine L_nil ?_
          refine ⟨k + 1, (Sub.cons rfl (Sub.cons rfl (Sub.cons rfl (Sub.nil _)))), (MSub.nil _), ?_, ?_⟩
          · skip
            exact ⟨by omega, take_succ_eq ht (by rw [List.getElem?_map, hu1]; rfl) (by rw [List.getElem?_map, hu2]; rfl) (by simpa [dat_int, dat_str, dat_bool] using hc6)⟩
          · skip
            (try dsimp only); omega
      · skip
        refine W_exit ?_
        refine W_seq ?_
        refine W_region ?_
        refine L_assign rfl rfl ?_
        refine L_nil ?_
        refine W_ret ?_
        -- return 3 (R8)
        refine res1 rfl (ResOK.tmp rfl) ⟨?_, rfl⟩ (MSub.nil _)
        refine congrArg Value.bool (Eq.symm (eqB_true.2 ?_))
        have hk2 : x1.length ≤ k := by simpa using hc4
        have h3 := ht
        rw [List.take_of_length_le (by simp; omega), List.take_of_length_le (by simp; omega)] at h3
        exact h3

theorem szIntS_spec (w : World) (t1 : TL Int) (left : Int) (hl : 0 ≤ left) (hm : left ≤ 1048576) (h1 : GT.rd w [] t1) : Spec Try.prog 75 [t1.hdr, .int .i64 left].toArray w [] (IsV (.int .i64 (if (Bk.bulk t1 : Int) ≤ left then left - (Bk.bulk t1 : Int) else -1))) := by
  obtain ⟨a1, c1, e1, x1, y1⟩ := t1
  have hm1 : x1.length ≤ 9223372036854775807 := rd_len h1
  rw [bulk_TL]
  dsimp only [TL.hdr]
  have hz : bulks x1 = 0 := by
    clear hm1 h1
    induction x1 with
    | nil => rfl
    | cons y ys ih => simp only [bulks, ih]; rfl
  refine Spec.intro Try.func75 rfl Try.ntmps75 rfl ?_
  refine W_seq ?_
  refine W_region ?_
  refine L_assign rfl rfl ?_
  refine L_nil ?_
  refine W_seq ?_
  refine W_region ?_
  refine L_move rfl rfl ?_
  refine L_move rfl rfl ?_
  refine L_lenS rfl rfl el56 ?_
  refine L_binV rfl rfl rfl (bv_subR (by unfold inR; omega)) ?_
  refine L_assign rfl rfl ?_
  refine L_nil ?_
  refine W_seq ?_
  refine W_seq ?_
  refine W_region ?_
  refine L_move rfl rfl ?_
  refine L_binV rfl rfl rfl bv_lss ?_
  refine L_nil ?_
  refine W_weaken (l' := [(1, _), (10, _)]) (Sub.cons rfl (Sub.cons rfl (Sub.nil _))) (MSub.refl _) ?_
  refine W_cond rfl (fun hc2 => ?_) (fun hc2 => ?_)
  · skip
    have hb0 : left - (x1.length : Int) < 0 := by simpa using hc2
    refine W_seq ?_
    refine W_region ?_
    refine L_assign rfl rfl ?_
    refine L_nil ?_
    refine W_ret ?_
    -- return 1 (R3)
    refine res1 rfl (ResOK.tmp rfl) ⟨?_, rfl⟩ (MSub.nil _)
    simp only [hz, Nat.add_zero]
    first
      | (rw [if_pos (by omega)]; done)
      | (rw [if_neg (by omega)])
  · skip
    have hb0 : ¬ (left - (x1.length : Int) < 0) := by simpa using hc2
    skip
    refine W_skip ?_
    refine W_seq ?_
    refine W_region ?_
    refine L_move rfl rfl ?_
    refine L_assign rfl rfl ?_
    refine L_nil ?_
    refine W_ret ?_
    -- return 2 (R4)
    refine res1 rfl (ResOK.tmp rfl) ⟨?_, rfl⟩ (MSub.nil _)
    simp only [hz, Nat.add_zero]
    first
      | (rw [if_pos (by omega)]; done)
      | (rw [if_neg (by omega)])

theorem toStringS_spec (w : World) (t1 : TL ByteArray) (h1 : GT.rd w [] t1) (hb : Bk.bulk t1 ≤ 1048576) : Spec Try.prog 73 [t1.hdr].toArray w [] (fun v M => ∃ t2 : TL ByteArray, v = t2.hdr ∧ GT.dat t2 = GT.dat t1 ∧ M = [treeH t2]) := by
  obtain ⟨a1, c1, e1, x1, y1⟩ := t1
  rw [bulk_TL] at hb
  dsimp only [TL.hdr]
  refine Spec.intro Try.func73 rfl Try.ntmps73 rfl ?_
  refine W_seq ?_
  refine W_region ?_
  refine L_assign rfl rfl ?_
  refine L_nil ?_
  refine W_seq ?_
  refine W_region ?_
  refine L_move rfl rfl ?_
  refine L_lenS rfl rfl el73 ?_
  refine L_make (τ := ByteArray) ByteArray.empty rfl rfl rfl el73 rfl rfl (flat_str (by unfold okStr; decide)) (by omega) (by unfold maxLen; omega) (fun g => ?_)
  refine L_assign rfl rfl ?_
  refine L_nil ?_
  refine W_seq ?_
  refine W_seq ?_
  refine W_region ?_
  refine L_assign rfl rfl ?_
  refine L_nil ?_
  refine W_block ?_
  refine W_loopC (σ := Nat × List ByteArray) (0, List.replicate x1.length ByteArray.empty) (fun (p : Nat × List ByteArray) => [(4, .int .i64 (p.1 : Int))]) (fun (p : Nat × List ByteArray) => [treeH (⟨some ⟨g, 0, none⟩, x1.length, 9, p.2, []⟩ : TL ByteArray)]) (fun (p : Nat × List ByteArray) => p.1 ≤ x1.length ∧ p.2.length = x1.length ∧ (p.2.take p.1).map GT.dat = (x1.take p.1).map GT.dat) (fun (p : Nat × List ByteArray) => x1.length - p.1) [(0, _), (3, _)] [] ?_ (Sub.cons rfl (Sub.cons rfl (Sub.cons rfl (Sub.nil _)))) (MSub.cons (by repeat (first | exact Pick.here _ | apply Pick.there)) (MSub.nil _)) ?_
  · skip
    exact ⟨Nat.zero_le _, by simp, by simp⟩
  · skip
    rintro ⟨k, cur⟩ ⟨hk, hlen, hdat⟩
    dsimp only at hk hlen hdat
    refine W_weaken (l' := [(0, _), (3, _), (4, _)]) (Sub.cons rfl (Sub.cons rfl (Sub.cons rfl (Sub.nil _)))) (M' := [_]) (MSub.cons (by repeat (first | exact Pick.here _ | apply Pick.there)) (MSub.nil _)) ?_
    refine W_seq ?_
    refine W_seq ?_
    refine W_region ?_
    refine L_move rfl rfl ?_
    refine L_move rfl rfl ?_
    refine L_lenS rfl rfl el73 ?_
    refine L_binV rfl rfl rfl bv_lss ?_
    refine L_nil ?_
    refine W_weaken (l' := [(0, _), (3, _), (4, _), (11, _)]) (Sub.cons rfl (Sub.cons rfl (Sub.cons rfl (Sub.cons rfl (Sub.nil _))))) (MSub.refl _) ?_
    refine W_cond rfl (fun hc3 => ?_) (fun hc3 => ?_)
    · skip
      have hk1 : k < x1.length := by simpa using hc3
      obtain ⟨g1, o1, rfl⟩ := rd_addr h1 hk1
      obtain ⟨u1, hu1⟩ := getEl hk1
      have hub : Bk.bulk u1 ≤ 1048576 := by have := bulk_mem (List.mem_of_getElem? hu1); omega
      refine W_skip ?_
      refine W_seq ?_
      refine W_block ?_
      refine W_region ?_
      refine L_move rfl rfl ?_
      refine L_move rfl rfl ?_
      refine L_move rfl rfl ?_
      refine L_move rfl rfl ?_
      refine L_indexAddr rfl rfl rfl el73 rfl (by omega) ?_
      refine L_load0 rfl rfl (by first | exact RdC.blk (by repeat (first | exact List.Mem.head _ | apply List.Mem.tail)) | exact RdC.old (Cells.el h1 rfl hu1)) one9 rfl ?_
      refine L_indexAddr rfl rfl rfl el73 rfl (by omega) ?_
      obtain ⟨u0, hu0⟩ := getEl (show k < cur.length by omega)
      refine L_storeElV u1 rfl rfl (by repeat (first | exact Pick.here _ | apply Pick.there)) rfl hu0 rfl (flat_str (h1.2.2.1 _ (List.mem_of_getElem? hu1))) (.inr ⟨one9, rfl⟩) ?_
      refine L_nil ?_
      refine W_region ?_
      refine L_move rfl rfl ?_
      refine L_binV rfl rfl rfl (bv_addR (by unfold inR; omega)) ?_
      refine L_assign rfl rfl ?_
      refine L_nil ?_
      refine ⟨(k + 1, cur.set k u1), (Sub.cons rfl (Sub.cons rfl (Sub.cons rfl (Sub.nil _)))), (MSub.cons (by repeat (first | exact Pick.here _ | apply Pick.there)) (MSub.nil _)), ?_, ?_⟩
      · skip
        exact ⟨by dsimp only; omega, by simpa using hlen, map_take_set GT.dat GT.dat hdat (by omega) hu1 rfl⟩
      · skip
        dsimp only; omega
    · skip
      refine W_exit ?_
      refine W_seq ?_
      refine W_region ?_
      refine L_move rfl rfl ?_
      refine L_assign rfl rfl ?_
      refine L_nil ?_
      refine W_ret ?_
      -- return 1 (R6)
      refine res1 rfl (ResOK.tmp rfl) ⟨⟨some ⟨g, 0, none⟩, x1.length, 9, cur, []⟩, ?_, ?_, rfl⟩ (MSub.cons (by repeat (first | exact Pick.here _ | apply Pick.there)) (MSub.nil _))
      · show _ = Value.slice _ cur.length _
        rw [hlen]
      · have hk2 : x1.length ≤ k := by simpa using hc3
        rw [List.take_of_length_le (by omega), List.take_of_length_le (by omega)] at hdat
        exact hdat

theorem toSess_spec (w : World) (t1 : T_Sess) (h1 : GT.rd w [] t1) (hb : Bk.bulk t1 ≤ 1048576) : Spec Try.prog 61 [.agg (GT.cells t1).toArray].toArray w [] (fun v M => ∃ t2 : T_Sess, v = .agg (GT.cells t2).toArray ∧ GT.dat t2 = GT.dat t1 ∧ M = [treeH t2]) := by
  obtain ⟨a1, a2, a3, a4⟩ := t1
  have hbk_3 : Bk.bulk a4 ≤ 1048576 := by simp only [bulk_pair, bulk_int, bulk_bool, bulk_str] at hb ⊢; omega
  change Spec _ _ [Value.agg #[.int .i64 a1, .int .i64 a2, .int .i64 a3, a4.hdr]].toArray w [] _
  refine Spec.intro Try.func61 rfl Try.ntmps61 rfl ?_
  refine W_seq ?_
  refine W_region ?_
  refine L_box rfl rfl (fun bk1 => ?_)
  refine L_alloc rfl zero75 (fun bk2 => ?_)
  refine L_nil ?_
  refine W_seq ?_
  refine W_region ?_
  refine L_alloc rfl zero75 (fun bk3 => ?_)
  refine L_nil ?_
  refine W_seq ?_
  refine W_region ?_
  refine L_fieldAddr rfl rfl fld92_0 ?_
  refine L_load rfl rfl (by first | exact RdC.blk (by repeat (first | exact List.Mem.head _ | apply List.Mem.tail))) one3 rfl ?_
  refine L_fieldAddr rfl rfl fld75_0 ?_
  refine L_store rfl rfl (by repeat (first | exact Pick.here _ | apply Pick.there)) one3 rfl rfl ?_
  refine L_nil ?_
  refine W_seq ?_
  refine W_region ?_
  refine L_fieldAddr rfl rfl fld92_1 ?_
  refine L_load rfl rfl (by first | exact RdC.blk (by repeat (first | exact List.Mem.head _ | apply List.Mem.tail))) one3 rfl ?_
  refine L_fieldAddr rfl rfl fld75_1 ?_
  refine L_store rfl rfl (by repeat (first | exact Pick.here _ | apply Pick.there)) one3 rfl rfl ?_
  refine L_nil ?_
  refine W_seq ?_
  refine W_region ?_
  refine L_fieldAddr rfl rfl fld92_2 ?_
  refine L_load rfl rfl (by first | exact RdC.blk (by repeat (first | exact List.Mem.head _ | apply List.Mem.tail))) one3 rfl ?_
  refine L_fieldAddr rfl rfl fld75_2 ?_
  refine L_store rfl rfl (by repeat (first | exact Pick.here _ | apply Pick.there)) one3 rfl rfl ?_
  refine L_nil ?_
  refine W_seq ?_
  refine W_region ?_
  refine L_fieldAddr rfl rfl fld92_3 ?_
  refine L_load rfl rfl (by first | exact RdC.blk (by repeat (first | exact List.Mem.head _ | apply List.Mem.tail))) one73 rfl ?_
  refine L_callR rfl fn73 rfl (by exact fun w hw => toStringS_spec w _ (rd_carry (h1.2.2.2) hw) hbk_3) ?_
  rintro v M1 ⟨n4t, hv, hd3, rfl⟩
  subst hv
  simp only [List.cons_append, List.nil_append]
  refine L_fieldAddr rfl rfl fld75_3 ?_
  refine L_store rfl rfl (by repeat (first | exact Pick.here _ | apply Pick.there)) one73 rfl rfl ?_
  refine L_nil ?_
  refine W_seq ?_
  refine W_region ?_
  refine L_loadW rfl rfl (by first | exact RdC.blk (by repeat (first | exact List.Mem.head _ | apply List.Mem.tail))) (by exact agg75) ?_
  refine L_storeW rfl rfl (by repeat (first | exact Pick.here _ | apply Pick.there)) (by exact agg75) (by rfl) (by simp [Value.oneCell', TL.hdr]) ?_
  refine L_nil ?_
  refine W_conv (M' := treeH ((a1, a2, a3, n4t) : T_Sess) :: _) (fun w h => (tree_snd (flat_int (h1.1)) (tree_snd (flat_int (h1.2.1)) (tree_snd (flat_int (h1.2.2.1)) (frontPick (by repeat (first | exact Pick.here _ | apply Pick.there)) h))))) ?_
  refine W_ret ?_
  -- return 1 (R6)
  refine res1 rfl (ResOK.cell rfl (by repeat (first | exact List.Mem.head _ | apply List.Mem.tail)) (by exact agg75)) ⟨(a1, a2, a3, n4t), rfl, by simp only [dat_pair, hd3], rfl⟩ (MSub.cons (by repeat (first | exact Pick.here _ | apply Pick.there)) (MSub.nil _))

theorem toSessS_spec (w : World) (t1 : TL T_Sess) (h1 : GT.rd w [] t1) (hb : Bk.bulk t1 ≤ 1048576) : Spec Try.prog 44 [t1.hdr].toArray w [] (fun v M => ∃ t2 : TL T_Sess, v = t2.hdr ∧ GT.dat t2 = GT.dat t1 ∧ M = [treeH t2]) := by
  obtain ⟨a1, c1, e1, x1, y1⟩ := t1
  rw [bulk_TL] at hb
  dsimp only [TL.hdr]
  refine Spec.intro Try.func44 rfl Try.ntmps44 rfl ?_
  refine W_seq ?_
  refine W_region ?_
  refine L_assign rfl rfl ?_
  refine L_nil ?_
  refine W_seq ?_
  refine W_region ?_
  refine L_move rfl rfl ?_
  refine L_lenS rfl rfl el34 ?_
  refine L_make (τ := T_Sess) ((0 : Int), (0 : Int), (0 : Int), (TL.nil ByteArray 0)) rfl rfl rfl el39 rfl rfl (flat_pair (flat_int (by unfold inR; omega)) (flat_pair (flat_int (by unfold inR; omega)) (flat_pair (flat_int (by unfold inR; omega)) (flat_nil 0)))) (by omega) (by unfold maxLen; omega) (fun g => ?_)
  refine L_assign rfl rfl ?_
  refine L_nil ?_
  refine W_seq ?_
  refine W_seq ?_
  refine W_region ?_
  refine L_assign rfl rfl ?_
  refine L_nil ?_
  refine W_block ?_
  refine W_loopC (σ := Nat × List T_Sess) (0, List.replicate x1.length ((0 : Int), (0 : Int), (0 : Int), (TL.nil ByteArray 0))) (fun (p : Nat × List T_Sess) => [(4, .int .i64 (p.1 : Int))]) (fun (p : Nat × List T_Sess) => [treeH (⟨some ⟨g, 0, none⟩, x1.length, 75, p.2, []⟩ : TL T_Sess)]) (fun (p : Nat × List T_Sess) => p.1 ≤ x1.length ∧ p.2.length = x1.length ∧ (p.2.take p.1).map GT.dat = (x1.take p.1).map GT.dat) (fun (p : Nat × List T_Sess) => x1.length - p.1) [(0, _), (3, _)] [] ?_ (Sub.cons rfl (Sub.cons rfl (Sub.cons rfl (Sub.nil _)))) (MSub.cons (by repeat (first | exact Pick.here _ | apply Pick.there)) (MSub.nil _)) ?_
  · skip
    exact ⟨Nat.zero_le _, by simp, by simp⟩
  · skip
    rintro ⟨k, cur⟩ ⟨hk, hlen, hdat⟩
    dsimp only at hk hlen hdat
    refine W_weaken (l' := [(0, _), (3, _), (4, _)]) (Sub.cons rfl (Sub.cons rfl (Sub.cons rfl (Sub.nil _)))) (M' := [_]) (MSub.cons (by repeat (first | exact Pick.here _ | apply Pick.there)) (MSub.nil _)) ?_
    refine W_seq ?_
    refine W_seq ?_
    refine W_region ?_
    refine L_move rfl rfl ?_
    refine L_move rfl rfl ?_
    refine L_lenS rfl rfl el34 ?_
    refine L_binV rfl rfl rfl bv_lss ?_
    refine L_nil ?_
    refine W_weaken (l' := [(0, _), (3, _), (4, _), (11, _)]) (Sub.cons rfl (Sub.cons rfl (Sub.cons rfl (Sub.cons rfl (Sub.nil _))))) (MSub.refl _) ?_
    refine W_cond rfl (fun hc3 => ?_) (fun hc3 => ?_)
    · skip
      have hk1 : k < x1.length := by simpa using hc3
      obtain ⟨g1, o1, rfl⟩ := rd_addr h1 hk1
      obtain ⟨u1, hu1⟩ := getEl hk1
      have hub : Bk.bulk u1 ≤ 1048576 := by have := bulk_mem (List.mem_of_getElem? hu1); omega
      refine W_skip ?_
      refine W_seq ?_
      refine W_block ?_
      refine W_region ?_
      refine L_move rfl rfl ?_
      refine L_move rfl rfl ?_
      refine L_move rfl rfl ?_
      refine L_move rfl rfl ?_
      refine L_indexAddr rfl rfl rfl el34 rfl (by omega) ?_
      refine L_loadW rfl rfl (by first | exact RdC.blk (by repeat (first | exact List.Mem.head _ | apply List.Mem.tail)) | exact RdC.old (Cells.el h1 rfl hu1)) (by exact agg92) ?_
      refine L_callR rfl fn61 rfl (by exact fun w hw => toSess_spec w _ (rd_carry (h1.2.2.1 _ (List.mem_of_getElem? hu1)) hw) hub) ?_
      rintro v M1 ⟨u2, hv, hd, rfl⟩
      subst hv
      simp only [List.cons_append, List.nil_append]
      refine L_indexAddr rfl rfl rfl el39 rfl (by omega) ?_
      obtain ⟨u0, hu0⟩ := getEl (show k < cur.length by omega)
      refine L_storeEl u2 rfl rfl (by repeat (first | exact Pick.here _ | apply Pick.there)) rfl hu0 rfl (by repeat (first | exact Pick.here _ | apply Pick.there)) (.inl agg75) ?_
      refine L_nil ?_
      refine W_region ?_
      refine L_move rfl rfl ?_
      refine L_binV rfl rfl rfl (bv_addR (by unfold inR; omega)) ?_
      refine L_assign rfl rfl ?_
      refine L_nil ?_
      refine ⟨(k + 1, cur.set k u2), (Sub.cons rfl (Sub.cons rfl (Sub.cons rfl (Sub.nil _)))), (MSub.cons (by repeat (first | exact Pick.here _ | apply Pick.there)) (MSub.nil _)), ?_, ?_⟩
      · skip
        exact ⟨by dsimp only; omega, by simpa using hlen, map_take_set GT.dat GT.dat hdat (by omega) hu1 hd⟩
      · skip
        dsimp only; omega
    · skip
      refine W_exit ?_
      refine W_seq ?_
      refine W_region ?_
      refine L_move rfl rfl ?_
      refine L_assign rfl rfl ?_
      refine L_nil ?_
      refine W_ret ?_
      -- return 1 (R6)
      refine res1 rfl (ResOK.tmp rfl) ⟨⟨some ⟨g, 0, none⟩, x1.length, 75, cur, []⟩, ?_, ?_, rfl⟩ (MSub.cons (by repeat (first | exact Pick.here _ | apply Pick.there)) (MSub.nil _))
      · show _ = Value.slice _ cur.length _
        rw [hlen]
      · have hk2 : x1.length ≤ k := by simpa using hc3
        rw [List.take_of_length_le (by omega), List.take_of_length_le (by omega)] at hdat
        exact hdat

theorem toDesks_spec (w : World) (t1 : T_Desks) (h1 : GT.rd w [] t1) (hb : Bk.bulk t1 ≤ 1048576) : Spec Try.prog 18 [.agg (GT.cells t1).toArray].toArray w [] (fun v M => ∃ t2 : T_Desks, v = .agg (GT.cells t2).toArray ∧ GT.dat t2 = GT.dat t1 ∧ M = [treeH t2]) := by
  obtain ⟨a1, a2, a3⟩ := t1
  have hbk_2 : Bk.bulk a3 ≤ 1048576 := by simp only [bulk_pair, bulk_int, bulk_bool, bulk_str] at hb ⊢; omega
  change Spec _ _ [Value.agg #[.int .i64 a1, .int .i64 a2, a3.hdr]].toArray w [] _
  refine Spec.intro Try.func18 rfl Try.ntmps18 rfl ?_
  refine W_seq ?_
  refine W_region ?_
  refine L_box rfl rfl (fun bk1 => ?_)
  refine L_alloc rfl zero41 (fun bk2 => ?_)
  refine L_nil ?_
  refine W_seq ?_
  refine W_region ?_
  refine L_alloc rfl zero41 (fun bk3 => ?_)
  refine L_nil ?_
  refine W_seq ?_
  refine W_region ?_
  refine L_fieldAddr rfl rfl fld36_0 ?_
  refine L_load rfl rfl (by first | exact RdC.blk (by repeat (first | exact List.Mem.head _ | apply List.Mem.tail))) one3 rfl ?_
  refine L_fieldAddr rfl rfl fld41_0 ?_
  refine L_store rfl rfl (by repeat (first | exact Pick.here _ | apply Pick.there)) one3 rfl rfl ?_
  refine L_nil ?_
  refine W_seq ?_
  refine W_region ?_
  refine L_fieldAddr rfl rfl fld36_1 ?_
  refine L_load rfl rfl (by first | exact RdC.blk (by repeat (first | exact List.Mem.head _ | apply List.Mem.tail))) one3 rfl ?_
  refine L_fieldAddr rfl rfl fld41_1 ?_
  refine L_store rfl rfl (by repeat (first | exact Pick.here _ | apply Pick.there)) one3 rfl rfl ?_
  refine L_nil ?_
  refine W_seq ?_
  refine W_region ?_
  refine L_fieldAddr rfl rfl fld36_2 ?_
  refine L_load rfl rfl (by first | exact RdC.blk (by repeat (first | exact List.Mem.head _ | apply List.Mem.tail))) one34 rfl ?_
  refine L_callR rfl fn44 rfl (by exact fun w hw => toSessS_spec w _ (rd_carry (h1.2.2) hw) hbk_2) ?_
  rintro v M1 ⟨n3t, hv, hd2, rfl⟩
  subst hv
  simp only [List.cons_append, List.nil_append]
  refine L_fieldAddr rfl rfl fld41_2 ?_
  refine L_store rfl rfl (by repeat (first | exact Pick.here _ | apply Pick.there)) one39 rfl rfl ?_
  refine L_nil ?_
  refine W_seq ?_
  refine W_region ?_
  refine L_loadW rfl rfl (by first | exact RdC.blk (by repeat (first | exact List.Mem.head _ | apply List.Mem.tail))) (by exact agg41) ?_
  refine L_storeW rfl rfl (by repeat (first | exact Pick.here _ | apply Pick.there)) (by exact agg41) (by rfl) (by simp [Value.oneCell', TL.hdr]) ?_
  refine L_nil ?_
  refine W_conv (M' := treeH ((a1, a2, n3t) : T_Desks) :: _) (fun w h => (tree_snd (flat_int (h1.1)) (tree_snd (flat_int (h1.2.1)) (frontPick (by repeat (first | exact Pick.here _ | apply Pick.there)) h)))) ?_
  refine W_ret ?_
  -- return 1 (R5)
  refine res1 rfl (ResOK.cell rfl (by repeat (first | exact List.Mem.head _ | apply List.Mem.tail)) (by exact agg41)) ⟨(a1, a2, n3t), rfl, by simp only [dat_pair, hd2], rfl⟩ (MSub.cons (by repeat (first | exact Pick.here _ | apply Pick.there)) (MSub.nil _))

theorem toIntS_spec (w : World) (t1 : TL Int) (h1 : GT.rd w [] t1) (hb : Bk.bulk t1 ≤ 1048576) : Spec Try.prog 76 [t1.hdr].toArray w [] (fun v M => ∃ t2 : TL Int, v = t2.hdr ∧ GT.dat t2 = GT.dat t1 ∧ M = [treeH t2]) := by
  obtain ⟨a1, c1, e1, x1, y1⟩ := t1
  rw [bulk_TL] at hb
  dsimp only [TL.hdr]
  refine Spec.intro Try.func76 rfl Try.ntmps76 rfl ?_
  refine W_seq ?_
  refine W_region ?_
  refine L_assign rfl rfl ?_
  refine L_nil ?_
  refine W_seq ?_
  refine W_region ?_
  refine L_move rfl rfl ?_
  refine L_lenS rfl rfl el56 ?_
  refine L_make (τ := Int) (0 : Int) rfl rfl rfl el56 rfl rfl (flat_int (by unfold inR; omega)) (by omega) (by unfold maxLen; omega) (fun g => ?_)
  refine L_assign rfl rfl ?_
  refine L_nil ?_
  refine W_seq ?_
  refine W_seq ?_
  refine W_region ?_
  refine L_assign rfl rfl ?_
  refine L_nil ?_
  refine W_block ?_
  refine W_loopC (σ := Nat × List Int) (0, List.replicate x1.length (0 : Int)) (fun (p : Nat × List Int) => [(4, .int .i64 (p.1 : Int))]) (fun (p : Nat × List Int) => [treeH (⟨some ⟨g, 0, none⟩, x1.length, 3, p.2, []⟩ : TL Int)]) (fun (p : Nat × List Int) => p.1 ≤ x1.length ∧ p.2.length = x1.length ∧ (p.2.take p.1).map GT.dat = (x1.take p.1).map GT.dat) (fun (p : Nat × List Int) => x1.length - p.1) [(0, _), (3, _)] [] ?_ (Sub.cons rfl (Sub.cons rfl (Sub.cons rfl (Sub.nil _)))) (MSub.cons (by repeat (first | exact Pick.here _ | apply Pick.there)) (MSub.nil _)) ?_
  · skip
    exact ⟨Nat.zero_le _, by simp, by simp⟩
  · skip
    rintro ⟨k, cur⟩ ⟨hk, hlen, hdat⟩
    dsimp only at hk hlen hdat
    refine W_weaken (l' := [(0, _), (3, _), (4, _)]) (Sub.cons rfl (Sub.cons rfl (Sub.cons rfl (Sub.nil _)))) (M' := [_]) (MSub.cons (by repeat (first | exact Pick.here _ | apply Pick.there)) (MSub.nil _)) ?_
    refine W_seq ?_
    refine W_seq ?_
    refine W_region ?_
    refine L_move rfl rfl ?_
    refine L_move rfl rfl ?_
    refine L_lenS rfl rfl el56 ?_
    refine L_binV rfl rfl rfl bv_lss ?_
    refine L_nil ?_
    refine W_weaken (l' := [(0, _), (3, _), (4, _), (11, _)]) (Sub.cons rfl (Sub.cons rfl (Sub.cons rfl (Sub.cons rfl (Sub.nil _))))) (MSub.refl _) ?_
    refine W_cond rfl (fun hc3 => ?_) (fun hc3 => ?_)
    · skip
      have hk1 : k < x1.length := by simpa using hc3
      obtain ⟨g1, o1, rfl⟩ := rd_addr h1 hk1
      obtain ⟨u1, hu1⟩ := getEl hk1
      have hub : Bk.bulk u1 ≤ 1048576 := by have := bulk_mem (List.mem_of_getElem? hu1); omega
      refine W_skip ?_
      refine W_seq ?_
      refine W_block ?_
      refine W_region ?_
      refine L_move rfl rfl ?_
      refine L_move rfl rfl ?_
      refine L_move rfl rfl ?_
      refine L_move rfl rfl ?_
      refine L_indexAddr rfl rfl rfl el56 rfl (by omega) ?_
      refine L_load0 rfl rfl (by first | exact RdC.blk (by repeat (first | exact List.Mem.head _ | apply List.Mem.tail)) | exact RdC.old (Cells.el h1 rfl hu1)) one3 rfl ?_
      refine L_indexAddr rfl rfl rfl el56 rfl (by omega) ?_
      obtain ⟨u0, hu0⟩ := getEl (show k < cur.length by omega)
      refine L_storeElV u1 rfl rfl (by repeat (first | exact Pick.here _ | apply Pick.there)) rfl hu0 rfl (flat_int (h1.2.2.1 _ (List.mem_of_getElem? hu1))) (.inr ⟨one3, rfl⟩) ?_
      refine L_nil ?_
      refine W_region ?_
      refine L_move rfl rfl ?_
      refine L_binV rfl rfl rfl (bv_addR (by unfold inR; omega)) ?_
      refine L_assign rfl rfl ?_
      refine L_nil ?_
      refine ⟨(k + 1, cur.set k u1), (Sub.cons rfl (Sub.cons rfl (Sub.cons rfl (Sub.nil _)))), (MSub.cons (by repeat (first | exact Pick.here _ | apply Pick.there)) (MSub.nil _)), ?_, ?_⟩
      · skip
        exact ⟨by dsimp only; omega, by simpa using hlen, map_take_set GT.dat GT.dat hdat (by omega) hu1 rfl⟩
      · skip
        dsimp only; omega
    · skip
      refine W_exit ?_
      refine W_seq ?_
      refine W_region ?_
      refine L_move rfl rfl ?_
      refine L_assign rfl rfl ?_
      refine L_nil ?_
      refine W_ret ?_
      -- return 1 (R6)
      refine res1 rfl (ResOK.tmp rfl) ⟨⟨some ⟨g, 0, none⟩, x1.length, 3, cur, []⟩, ?_, ?_, rfl⟩ (MSub.cons (by repeat (first | exact Pick.here _ | apply Pick.there)) (MSub.nil _))
      · show _ = Value.slice _ cur.length _
        rw [hlen]
      · have hk2 : x1.length ≤ k := by simpa using hc3
        rw [List.take_of_length_le (by omega), List.take_of_length_le (by omega)] at hdat
        exact hdat

end Go.Proofs.SL
