import Derived.Test.YtfcbkchggigoeaaT4
import Derived.Test.YtfcbkchggigoeaaBaseC
namespace Go.Proofs.SL
open Go
abbrev T_Up := ByteArray × (TL Int) × Int
abbrev T_Ups := Int × (TL T_Up)
theorem el50 : elOf Try.prog 50 = some (82, 3, 48, [.string ByteArray.empty, .slice none 0 0, .int .i64 0]) := by kernel_rfl
theorem agg82 : aggOf Try.prog 82 = some 3 := by kernel_rfl
theorem fld82_0 : fldOf Try.prog 82 0 = some 0 := by kernel_rfl
theorem fld82_1 : fldOf Try.prog 82 1 = some 1 := by kernel_rfl
theorem one56 : oneOf Try.prog 56 = true := by kernel_rfl
theorem fn28 : IsFn Try.prog 28 := ⟨_, Try.func28, by kernel_rfl, rfl⟩
theorem fld82_2 : fldOf Try.prog 82 2 = some 2 := by kernel_rfl
theorem fn68 : IsFn Try.prog 68 := ⟨_, Try.func68, by kernel_rfl, rfl⟩
theorem fld96_0 : fldOf Try.prog 96 0 = some 0 := by kernel_rfl
theorem fld96_1 : fldOf Try.prog 96 1 = some 1 := by kernel_rfl
theorem fn75 : IsFn Try.prog 75 := ⟨_, Try.func75, by kernel_rfl, rfl⟩
theorem el45 : elOf Try.prog 45 = some (96, 3, 48, [.string ByteArray.empty, .slice none 0 0, .int .i64 0]) := by kernel_rfl
theorem agg96 : aggOf Try.prog 96 = some 3 := by kernel_rfl
theorem fn63 : IsFn Try.prog 63 := ⟨_, Try.func63, by kernel_rfl, rfl⟩
theorem zero82 : zeroOf Try.prog 82 = some [.string ByteArray.empty, .slice none 0 0, .int .i64 0] := by kernel_rfl
theorem fn76 : IsFn Try.prog 76 := ⟨_, Try.func76, by kernel_rfl, rfl⟩
theorem fld96_2 : fldOf Try.prog 96 2 = some 2 := by kernel_rfl
theorem fn65 : IsFn Try.prog 65 := ⟨_, Try.func65, by kernel_rfl, rfl⟩
theorem fld52_0 : fldOf Try.prog 52 0 = some 0 := by kernel_rfl
theorem fld52_1 : fldOf Try.prog 52 1 = some 1 := by kernel_rfl
theorem one50 : oneOf Try.prog 50 = true := by kernel_rfl
theorem fn54 : IsFn Try.prog 54 := ⟨_, Try.func54, by kernel_rfl, rfl⟩
theorem fld47_1 : fldOf Try.prog 47 1 = some 1 := by kernel_rfl
theorem one45 : oneOf Try.prog 45 = true := by kernel_rfl
theorem fn48 : IsFn Try.prog 48 := ⟨_, Try.func48, by kernel_rfl, rfl⟩
theorem zero52 : zeroOf Try.prog 52 = some [.int .i64 0, .slice none 0 0] := by kernel_rfl
theorem fld47_0 : fldOf Try.prog 47 0 = some 0 := by kernel_rfl
theorem fn51 : IsFn Try.prog 51 := ⟨_, Try.func51, by kernel_rfl, rfl⟩
theorem agg52 : aggOf Try.prog 52 = some 2 := by kernel_rfl
theorem eqUp_spec (w : World) (t1 t2 : T_Up) (h1 : GT.rd w [] t1) (h2 : GT.rd w [] t2) : Spec Try.prog 68 [.agg (GT.cells t1).toArray, .agg (GT.cells t2).toArray].toArray w [] (IsV (.bool (eqB (GT.dat t1) (GT.dat t2)))) := by
  obtain ⟨a1, a2, a3⟩ := t1
  obtain ⟨b1, b2, b3⟩ := t2
  change Spec _ _ [Value.agg #[.string a1, a2.hdr, .int .i64 a3], Value.agg #[.string b1, b2.hdr, .int .i64 b3]].toArray w [] _
  refine Spec.intro Try.func68 rfl Try.ntmps68 rfl ?_
  refine W_seq ?_
  refine W_region ?_
  refine L_box rfl rfl (fun bk2 => ?_)
  refine L_box rfl rfl (fun bk3 => ?_)
  refine L_assign rfl rfl ?_
  refine L_nil ?_
  refine W_seq ?_
  refine W_seq ?_
  refine W_region ?_
  refine L_fieldAddr rfl rfl fld82_0 ?_
  refine L_load rfl rfl (by first | exact RdC.blk (by repeat (first | exact List.Mem.head _ | apply List.Mem.tail))) one9 rfl ?_
  refine L_fieldAddr rfl rfl fld82_0 ?_
  refine L_load rfl rfl (by first | exact RdC.blk (by repeat (first | exact List.Mem.head _ | apply List.Mem.tail))) one9 rfl ?_
  refine L_binV rfl rfl rfl bv_sneq ?_
  refine L_nil ?_
  refine W_weaken (l' := [(2, _), (3, _), (9, _)]) (Sub.cons rfl (Sub.cons rfl (Sub.cons rfl (Sub.nil _)))) (MSub.refl _) ?_
  refine W_cond rfl (fun hc1 => ?_) (fun hc1 => ?_)
  · skip
    refine W_seq ?_
    refine W_region ?_
    refine L_assign rfl rfl ?_
    refine L_nil ?_
    refine W_ret ?_
    -- return 1 (R2)
    refine res1 rfl (ResOK.tmp rfl) ⟨?_, rfl⟩ (MSub.nil _)
    clear h1 h2
    first
      | (refine congrArg Value.bool (Eq.symm (eqB_false.2 fun e => ?_)); simp only [dat_pair, dat_int, dat_bool, dat_str, Prod.mk.injEq] at e; simp_all; done)
      | (refine congrArg Value.bool (Eq.symm (eqB_true.2 ?_)); simp only [dat_pair, dat_int, dat_bool, dat_str, Prod.mk.injEq]; simp_all; done)
  · skip
    refine W_skip ?_
    refine W_seq ?_
    refine W_seq ?_
    refine W_region ?_
    refine L_fieldAddr rfl rfl fld82_1 ?_
    refine L_load rfl rfl (by first | exact RdC.blk (by repeat (first | exact List.Mem.head _ | apply List.Mem.tail))) one56 rfl ?_
    refine L_fieldAddr rfl rfl fld82_1 ?_
    refine L_load rfl rfl (by first | exact RdC.blk (by repeat (first | exact List.Mem.head _ | apply List.Mem.tail))) one56 rfl ?_
    refine L_callX rfl fn28 rfl (by exact fun w hw => eqIntS_spec w _ _ (rd_carry (h1.2.1) hw) (rd_carry (h2.2.1) hw)) ?_
    refine L_not rfl rfl ?_
    refine L_nil ?_
    refine W_weaken (l' := [(2, _), (3, _), (15, _)]) (Sub.cons rfl (Sub.cons rfl (Sub.cons rfl (Sub.nil _)))) (MSub.refl _) ?_
    refine W_cond rfl (fun hc3 => ?_) (fun hc3 => ?_)
    · skip
      refine W_seq ?_
      refine W_region ?_
      refine L_assign rfl rfl ?_
      refine L_nil ?_
      refine W_ret ?_
      -- return 2 (R4)
      refine res1 rfl (ResOK.tmp rfl) ⟨?_, rfl⟩ (MSub.nil _)
      clear h1 h2
      first
        | (refine congrArg Value.bool (Eq.symm (eqB_false.2 fun e => ?_)); simp only [dat_pair, dat_int, dat_bool, dat_str, Prod.mk.injEq] at e; simp_all; done)
        | (refine congrArg Value.bool (Eq.symm (eqB_true.2 ?_)); simp only [dat_pair, dat_int, dat_bool, dat_str, Prod.mk.injEq]; simp_all; done)
    · skip
      refine W_skip ?_
      refine W_seq ?_
      refine W_seq ?_
      refine W_region ?_
      refine L_fieldAddr rfl rfl fld82_2 ?_
      refine L_load rfl rfl (by first | exact RdC.blk (by repeat (first | exact List.Mem.head _ | apply List.Mem.tail))) one3 rfl ?_
      refine L_fieldAddr rfl rfl fld82_2 ?_
      refine L_load rfl rfl (by first | exact RdC.blk (by repeat (first | exact List.Mem.head _ | apply List.Mem.tail))) one3 rfl ?_
      refine L_binV rfl rfl rfl bv_neq ?_
      refine L_nil ?_
      refine W_weaken (l' := [(20, _)]) (Sub.cons rfl (Sub.nil _)) (MSub.refl _) ?_
      refine W_cond rfl (fun hc5 => ?_) (fun hc5 => ?_)
      · skip
        refine W_seq ?_
        refine W_region ?_
        refine L_assign rfl rfl ?_
        refine L_nil ?_
        refine W_ret ?_
        -- return 3 (R6)
        refine res1 rfl (ResOK.tmp rfl) ⟨?_, rfl⟩ (MSub.nil _)
        clear h1 h2
        first
          | (refine congrArg Value.bool (Eq.symm (eqB_false.2 fun e => ?_)); simp only [dat_pair, dat_int, dat_bool, dat_str, Prod.mk.injEq] at e; simp_all; done)
          | (refine congrArg Value.bool (Eq.symm (eqB_true.2 ?_)); simp only [dat_pair, dat_int, dat_bool, dat_str, Prod.mk.injEq]; simp_all; done)
      · skip
        refine W_skip ?_
        refine W_seq ?_
        refine W_region ?_
        refine L_assign rfl rfl ?_
        refine L_nil ?_
        refine W_ret ?_
        -- return 4 (R7)
        refine res1 rfl (ResOK.tmp rfl) ⟨?_, rfl⟩ (MSub.nil _)
        clear h1 h2
        first
          | (refine congrArg Value.bool (Eq.symm (eqB_false.2 fun e => ?_)); simp only [dat_pair, dat_int, dat_bool, dat_str, Prod.mk.injEq] at e; simp_all; done)
          | (refine congrArg Value.bool (Eq.symm (eqB_true.2 ?_)); simp only [dat_pair, dat_int, dat_bool, dat_str, Prod.mk.injEq]; simp_all; done)

theorem eqUpS_spec (w : World) (t1 t2 : TL T_Up) (h1 : GT.rd w [] t1) (h2 : GT.rd w [] t2) : Spec Try.prog 54 [t1.hdr, t2.hdr].toArray w [] (IsV (.bool (eqB (GT.dat t1) (GT.dat t2)))) := by
  obtain ⟨a1, c1, e1, x1, y1⟩ := t1
  obtain ⟨a2, c2, e2, x2, y2⟩ := t2
  have hm1 : x1.length ≤ 9223372036854775807 := rd_len h1
  have hm2 : x2.length ≤ 9223372036854775807 := rd_len h2
  dsimp only [TL.hdr]
  refine Spec.intro Try.func54 rfl Try.ntmps54 rfl ?_
  refine W_seq ?_
  refine W_region ?_
  refine L_assign rfl rfl ?_
  refine L_nil ?_
  refine W_seq ?_
  refine W_seq ?_
  refine W_region ?_
  refine L_move rfl rfl ?_
  refine L_lenS rfl rfl el50 ?_
  refine L_move rfl rfl ?_
  refine L_lenS rfl rfl el50 ?_
  refine L_binV rfl rfl rfl bv_neq ?_
  refine L_nil ?_
  refine W_weaken (l' := [(0, _), (1, _), (10, _)]) (Sub.cons rfl (Sub.cons rfl (Sub.cons rfl (Sub.nil _)))) (MSub.refl _) ?_
  refine W_cond rfl (fun hc1 => ?_) (fun hc1 => ?_)
  · skip
    refine W_seq ?_
    refine W_region ?_
    refine L_assign rfl rfl ?_
    refine L_nil ?_
    refine W_ret ?_
    -- return 1 (R2)
    refine res1 rfl (ResOK.tmp rfl) ⟨?_, rfl⟩ (MSub.nil _)
    refine congrArg Value.bool (Eq.symm (eqB_false.2 fun e => ?_))
    simp at hc1
    exact hc1 (by have := congrArg List.length e; simp [dat_TL] at this; omega)
  · skip
    have hl : x1.length = x2.length := by simp at hc1; omega
    refine W_skip ?_
    refine W_seq ?_
    refine W_seq ?_
    refine W_region ?_
    refine L_assign rfl rfl ?_
    refine L_nil ?_
    refine W_block ?_
    refine W_loopC (σ := Nat) 0 (fun (k : Nat) => [(5, .int .i64 (k : Int))]) (fun (k : Nat) => []) (fun (k : Nat) => k ≤ x1.length ∧ (x1.map GT.dat).take k = (x2.map GT.dat).take k) (fun (k : Nat) => x1.length - k) [(0, _), (1, _)] [] ?_ (Sub.cons rfl (Sub.cons rfl (Sub.cons rfl (Sub.nil _)))) (MSub.nil _) ?_
    · skip
      exact ⟨Nat.zero_le _, rfl⟩
    · skip
      rintro k ⟨hk, ht⟩
      refine W_weaken (l' := [(0, _), (1, _), (5, _)]) (Sub.cons rfl (Sub.cons rfl (Sub.cons rfl (Sub.nil _)))) (M' := []) (MSub.nil _) ?_
      refine W_seq ?_
      refine W_seq ?_
      refine W_region ?_
      refine L_move rfl rfl ?_
      refine L_move rfl rfl ?_
      refine L_lenS rfl rfl el50 ?_
      refine L_binV rfl rfl rfl bv_lss ?_
      refine L_nil ?_
      refine W_weaken (l' := [(0, _), (1, _), (5, _), (14, _)]) (Sub.cons rfl (Sub.cons rfl (Sub.cons rfl (Sub.cons rfl (Sub.nil _))))) (MSub.refl _) ?_
      refine W_cond rfl (fun hc4 => ?_) (fun hc4 => ?_)
      · skip
        have hk1 : k < x1.length := by simpa using hc4
        obtain ⟨g1, o1, rfl⟩ := rd_addr h1 hk1
        obtain ⟨g2, o2, rfl⟩ := rd_addr (k := k) h2 (show k < x2.length by omega)
        obtain ⟨u1, hu1⟩ := getEl hk1
        obtain ⟨u2, hu2⟩ := getEl (show k < x2.length by omega)
        refine W_skip ?_
        refine W_seq ?_
        refine W_block ?_
        refine W_seq ?_
        refine W_D0 [26] mix (by kernel_rfl) rfl ?_
        refine D_move GC.none (OpV.t rfl) ?_
        refine D_move GC.none (OpV.t rfl) ?_
        refine D_indexAddr _ GC.none (OpV.t rfl) (OpV.t rfl) el50 (fun hg => ⟨rfl, by (try dsimp only); omega⟩) ?_
        refine D_loadW GC.none (OpV.t rfl) (fun hg => (by first | exact RdC.blk (by repeat (first | exact List.Mem.head _ | apply List.Mem.tail)) | exact RdC.old (Cells.el h1 rfl hu1) | exact RdC.old (Cells.el h2 rfl hu2))) (by exact agg82) ?_
        refine D_move GC.none (OpV.t rfl) ?_
        refine D_move GC.none (OpV.t rfl) ?_
        refine D_indexAddr _ GC.none (OpV.t rfl) (OpV.t rfl) el50 (fun hg => ⟨rfl, by (try dsimp only); omega⟩) ?_
        refine D_loadW GC.none (OpV.t rfl) (fun hg => (by first | exact RdC.blk (by repeat (first | exact List.Mem.head _ | apply List.Mem.tail)) | exact RdC.old (Cells.el h1 rfl hu1) | exact RdC.old (Cells.el h2 rfl hu2))) (by exact agg82) ?_
        refine D_callX GC.none fn68 (OpVs.cons (OpV.t rfl) (OpVs.cons (OpV.t rfl) (OpVs.nil))) (by exact fun hg w F hF hM => (fun w hw => eqUp_spec w _ _ (rd_carry (h1.2.2.1 _ (List.mem_of_getElem? hu1)) hw) (rd_carry (h2.2.2.1 _ (List.mem_of_getElem? hu2)) hw)) w hF) ?_
        refine D_not GC.none (OpV.t rfl) ?_
        refine DV_nil ?_
        refine Give_is rfl rfl ?_
        refine Give_drop rfl ?_
        refine Give_drop rfl ?_
        refine Give_drop rfl ?_
        refine Give_drop rfl ?_
        refine Give_drop rfl ?_
        refine Give_drop rfl ?_
        refine Give_drop rfl ?_
        refine Give_drop rfl ?_
        refine Give_drop rfl ?_
        refine Give_nil ?_
        refine W_weaken (l' := [(0, _), (1, _), (5, _), (26, _)]) (Sub.cons rfl (Sub.cons rfl (Sub.cons rfl (Sub.cons rfl (Sub.nil _))))) (MSub.refl _) ?_
        refine W_cond rfl (fun hc6 => ?_) (fun hc6 => ?_)
        · skip
          refine W_seq ?_
          refine W_region ?_
          refine L_assign rfl rfl ?_
          refine L_nil ?_
          refine W_ret ?_
          -- return 2 (R7)
          refine res1 rfl (ResOK.tmp rfl) ⟨?_, rfl⟩ (MSub.nil _)
          refine congrArg Value.bool (Eq.symm (eqB_false.2 fun e => ?_))
          simp at hc6
          replace e : x1.map GT.dat = x2.map GT.dat := e
          have e2 := congrArg (fun l => l[k]?) e
          simp only [List.getElem?_map, hu1, hu2, Option.map_some, Option.some.injEq] at e2
          exact hc6 (by simpa [dat_int, dat_str, dat_bool] using e2)
        · skip
          refine W_skip ?_
          refine W_region ?_
          refine L_move rfl rfl ?_
          refine L_binV rfl rfl rfl (bv_addR (by unfold inR; omega)) ?_
          refine L_assign rfl rfl ?_
          refine L_nil ?_
          refine ⟨k + 1, (Sub.cons rfl (Sub.cons rfl (Sub.cons rfl (Sub.nil _)))), (MSub.nil _), ?_, ?_⟩
          · skip
            exact ⟨by omega, take_succ_eq ht (by rw [List.getElem?_map, hu1]; rfl) (by rw [List.getElem?_map, hu2]; rfl) (by simpa [dat_int, dat_str, dat_bool] using hc6)⟩
          · skip
            (try dsimp only); omega
      · skip
        refine W_exit ?_
        refine W_seq ?_
        refine W_region ?_
        refine L_assign rfl rfl ?_
        refine L_nil ?_
        refine W_ret ?_
        -- return 3 (R8)
        refine res1 rfl (ResOK.tmp rfl) ⟨?_, rfl⟩ (MSub.nil _)
        refine congrArg Value.bool (Eq.symm (eqB_true.2 ?_))
        have hk2 : x1.length ≤ k := by simpa using hc4
        have h3 := ht
        rw [List.take_of_length_le (by simp; omega), List.take_of_length_le (by simp; omega)] at h3
        exact h3

theorem szUp_spec (w : World) (t1 : T_Up) (left : Int) (hl : 0 ≤ left) (hm : left ≤ 1048576) (h1 : GT.rd w [] t1) : Spec Try.prog 63 [.agg (GT.cells t1).toArray, .int .i64 left].toArray w [] (IsV (.int .i64 (if (Bk.bulk t1 : Int) ≤ left then left - (Bk.bulk t1 : Int) else -1))) := by
  obtain ⟨a1, a2, a3⟩ := t1
  have hs0 : a1.size ≤ 9223372036854775807 := h1.1
  change Spec _ _ [Value.agg #[.string a1, a2.hdr, .int .i64 a3], .int .i64 left].toArray w [] _
  refine Spec.intro Try.func63 rfl Try.ntmps63 rfl ?_
  refine W_seq ?_
  refine W_region ?_
  refine L_box rfl rfl (fun bk2 => ?_)
  refine L_assign rfl rfl ?_
  refine L_nil ?_
  refine W_seq ?_
  refine W_region ?_
  refine L_move rfl rfl ?_
  refine L_fieldAddr rfl rfl fld96_0 ?_
  refine L_load rfl rfl (by first | exact RdC.blk (by repeat (first | exact List.Mem.head _ | apply List.Mem.tail))) one9 rfl ?_
  refine L_lenT rfl rfl str9 ?_
  refine L_binV rfl rfl rfl (bv_subR (by unfold inR; omega)) ?_
  refine L_assign rfl rfl ?_
  refine L_nil ?_
  refine W_seq ?_
  refine W_seq ?_
  refine W_region ?_
  refine L_move rfl rfl ?_
  refine L_binV rfl rfl rfl bv_lss ?_
  refine L_nil ?_
  refine W_weaken (l' := [(1, _), (2, _), (11, _)]) (Sub.cons rfl (Sub.cons rfl (Sub.cons rfl (Sub.nil _)))) (MSub.refl _) ?_
  refine W_cond rfl (fun hc2 => ?_) (fun hc2 => ?_)
  · skip
    have hb0 : left - (a1.size : Int) < 0 := by simpa using hc2
    refine W_seq ?_
    refine W_region ?_
    refine L_assign rfl rfl ?_
    refine L_nil ?_
    refine W_ret ?_
    -- return 1 (R3)
    refine res1 rfl (ResOK.tmp rfl) ⟨?_, rfl⟩ (MSub.nil _)
    simp only [bulk_pair, bulk_int, bulk_bool, bulk_str, Int.natCast_add, Int.natCast_zero] at *
    first
      | (rw [if_pos (by omega)]; congr 1; omega)
      | (rw [if_neg (by omega)])
  · skip
    have hb0 : ¬ (left - (a1.size : Int) < 0) := by simpa using hc2
    refine W_skip ?_
    refine W_seq ?_
    refine W_region ?_
    refine L_fieldAddr rfl rfl fld96_1 ?_
    refine L_load rfl rfl (by first | exact RdC.blk (by repeat (first | exact List.Mem.head _ | apply List.Mem.tail))) one56 rfl ?_
    refine L_move rfl rfl ?_
    refine L_callX rfl fn75 rfl (by exact fun w hw => szIntS_spec w _ (left - (a1.size : Int)) (by omega) (by omega) (rd_carry (h1.2.1) hw)) ?_
    refine L_assign rfl rfl ?_
    refine L_nil ?_
    refine W_seq ?_
    refine W_seq ?_
    refine W_region ?_
    refine L_move rfl rfl ?_
    refine L_binV rfl rfl rfl bv_lss ?_
    refine L_nil ?_
    refine W_weaken (l' := [(1, _), (17, _)]) (Sub.cons rfl (Sub.cons rfl (Sub.nil _))) (MSub.refl _) ?_
    refine W_cond rfl (fun hc5 => ?_) (fun hc5 => ?_)
    · skip
      have hb1 : ¬ ((Bk.bulk a2 : Int) ≤ left - (a1.size : Int)) := by
        intro hn
        rw [if_pos hn] at hc5; simp at hc5; omega
      refine W_seq ?_
      refine W_region ?_
      refine L_assign rfl rfl ?_
      refine L_nil ?_
      refine W_ret ?_
      -- return 2 (R6)
      refine res1 rfl (ResOK.tmp rfl) ⟨?_, rfl⟩ (MSub.nil _)
      simp only [bulk_pair, bulk_int, bulk_bool, bulk_str, Int.natCast_add, Int.natCast_zero] at *
      first
        | (rw [if_pos (by omega)]; congr 1; omega)
        | (rw [if_neg (by omega)])
    · skip
      have hb1 : (Bk.bulk a2 : Int) ≤ left - (a1.size : Int) := by
        rcases Int.decLt (left - (a1.size : Int)) (Bk.bulk a2 : Int) with hn | hn
        · omega
        · rw [if_neg (by omega)] at hc5; simp at hc5
      rw [if_pos hb1]
      refine W_skip ?_
      refine W_seq ?_
      refine W_region ?_
      refine L_move rfl rfl ?_
      refine L_assign rfl rfl ?_
      refine L_nil ?_
      refine W_ret ?_
      -- return 3 (R7)
      refine res1 rfl (ResOK.tmp rfl) ⟨?_, rfl⟩ (MSub.nil _)
      simp only [bulk_pair, bulk_int, bulk_bool, bulk_str, Int.natCast_add, Int.natCast_zero] at *
      first
        | (rw [if_pos (by omega)]; congr 1; omega)
        | (rw [if_neg (by omega)])

theorem szUpS_spec (w : World) (t1 : TL T_Up) (left : Int) (hl : 0 ≤ left) (hm : left ≤ 1048576) (h1 : GT.rd w [] t1) : Spec Try.prog 48 [t1.hdr, .int .i64 left].toArray w [] (IsV (.int .i64 (if (Bk.bulk t1 : Int) ≤ left then left - (Bk.bulk t1 : Int) else -1))) := by
  obtain ⟨a1, c1, e1, x1, y1⟩ := t1
  have hm1 : x1.length ≤ 9223372036854775807 := rd_len h1
  rw [bulk_TL]
  dsimp only [TL.hdr]
  refine Spec.intro Try.func48 rfl Try.ntmps48 rfl ?_
  refine W_seq ?_
  refine W_region ?_
  refine L_assign rfl rfl ?_
  refine L_nil ?_
  refine W_seq ?_
  refine W_region ?_
  refine L_move rfl rfl ?_
  refine L_move rfl rfl ?_
  refine L_lenS rfl rfl el45 ?_
  refine L_binV rfl rfl rfl (bv_subR (by unfold inR; omega)) ?_
  refine L_assign rfl rfl ?_
  refine L_nil ?_
  refine W_seq ?_
  refine W_seq ?_
  refine W_region ?_
  refine L_move rfl rfl ?_
  refine L_binV rfl rfl rfl bv_lss ?_
  refine L_nil ?_
  refine W_weaken (l' := [(0, _), (1, _), (11, _)]) (Sub.cons rfl (Sub.cons rfl (Sub.cons rfl (Sub.nil _)))) (MSub.refl _) ?_
  refine W_cond rfl (fun hc2 => ?_) (fun hc2 => ?_)
  · skip
    have hb0 : left - (x1.length : Int) < 0 := by simpa using hc2
    refine W_seq ?_
    refine W_region ?_
    refine L_assign rfl rfl ?_
    refine L_nil ?_
    refine W_ret ?_
    -- return 1 (R3)
    refine res1 rfl (ResOK.tmp rfl) ⟨?_, rfl⟩ (MSub.nil _)
    first
      | (rw [if_neg (by simp only [Int.natCast_add]; omega)]; done)
      | (rw [if_neg (by have := bulks_take_le x1 (k + 1); simp only [Int.natCast_add]; omega)]; done)
      | (have hk2 : x1.length ≤ k := by simpa using hc5
         rw [List.take_of_length_le hk2] at ht ⊢
         rw [if_pos (by simp only [Int.natCast_add]; omega)]; congr 1; simp only [Int.natCast_add]; omega)
  · skip
    have hb0 : ¬ (left - (x1.length : Int) < 0) := by simpa using hc2
    refine W_skip ?_
    refine W_seq ?_
    refine W_seq ?_
    refine W_region ?_
    refine L_assign rfl rfl ?_
    refine L_nil ?_
    refine W_block ?_
    have h0 : left - (x1.length : Int) = left - (x1.length : Int) - (bulks (x1.take 0) : Int) := by simp [bulks]
    rw [h0]
    refine W_loopC (σ := Nat) 0 (fun (k : Nat) => [(1, .int .i64 (left - (x1.length : Int) - (bulks (x1.take k) : Int))), (5, .int .i64 (k : Int))]) (fun (k : Nat) => []) (fun (k : Nat) => k ≤ x1.length ∧ 0 ≤ (left - (x1.length : Int) - (bulks (x1.take k) : Int))) (fun (k : Nat) => x1.length - k) [(0, _)] [] ?_ (Sub.cons rfl (Sub.cons rfl (Sub.cons rfl (Sub.nil _)))) (MSub.nil _) ?_
    · skip
      exact ⟨Nat.zero_le _, by simp [bulks]; omega⟩
    · skip
      rintro k ⟨hk, ht⟩
      refine W_weaken (l' := [(0, _), (1, _), (5, _)]) (Sub.cons rfl (Sub.cons rfl (Sub.cons rfl (Sub.nil _)))) (M' := []) (MSub.nil _) ?_
      refine W_seq ?_
      refine W_seq ?_
      refine W_region ?_
      refine L_move rfl rfl ?_
      refine L_move rfl rfl ?_
      refine L_lenS rfl rfl el45 ?_
      refine L_binV rfl rfl rfl bv_lss ?_
      refine L_nil ?_
      refine W_weaken (l' := [(0, _), (1, _), (5, _), (15, _)]) (Sub.cons rfl (Sub.cons rfl (Sub.cons rfl (Sub.cons rfl (Sub.nil _))))) (MSub.refl _) ?_
      refine W_cond rfl (fun hc5 => ?_) (fun hc5 => ?_)
      · skip
        have hk1 : k < x1.length := by simpa using hc5
        obtain ⟨g1, o1, rfl⟩ := rd_addr h1 hk1
        obtain ⟨u1, hu1⟩ := getEl hk1
        have hbs := bulks_take_succ hu1
        have hble := bulks_take_le x1 (k + 1)
        refine W_skip ?_
        refine W_seq ?_
        refine W_block ?_
        refine W_seq ?_
        refine W_region ?_
        refine L_move rfl rfl ?_
        refine L_move rfl rfl ?_
        refine L_indexAddr rfl rfl rfl el45 rfl (by omega) ?_
        refine L_loadW rfl rfl (by first | exact RdC.blk (by repeat (first | exact List.Mem.head _ | apply List.Mem.tail)) | exact RdC.old (Cells.el h1 rfl hu1)) (by exact agg96) ?_
        refine L_move rfl rfl ?_
        refine L_callX rfl fn63 rfl (by exact fun w hw => szUp_spec w _ _ (by omega) (by omega) (rd_carry (h1.2.2.1 _ (List.mem_of_getElem? hu1)) hw)) ?_
        refine L_assign rfl rfl ?_
        refine L_nil ?_
        refine W_seq ?_
        refine W_region ?_
        refine L_move rfl rfl ?_
        refine L_binV rfl rfl rfl bv_lss ?_
        refine L_nil ?_
        refine W_weaken (l' := [(0, _), (1, _), (5, _), (25, _)]) (Sub.cons rfl (Sub.cons rfl (Sub.cons rfl (Sub.cons rfl (Sub.nil _))))) (MSub.refl _) ?_
        refine W_cond rfl (fun hc8 => ?_) (fun hc8 => ?_)
        · skip
          have hb1 : ¬ ((Bk.bulk u1 : Int) ≤ (left - (x1.length : Int) - (bulks (x1.take k) : Int))) := by
            intro hn
            rw [if_pos hn] at hc8; simp at hc8; omega
          refine W_seq ?_
          refine W_region ?_
          refine L_assign rfl rfl ?_
          refine L_nil ?_
          refine W_ret ?_
          -- return 2 (R9)
          refine res1 rfl (ResOK.tmp rfl) ⟨?_, rfl⟩ (MSub.nil _)
          first
            | (rw [if_neg (by simp only [Int.natCast_add]; omega)]; done)
            | (rw [if_neg (by have := bulks_take_le x1 (k + 1); simp only [Int.natCast_add]; omega)]; done)
            | (have hk2 : x1.length ≤ k := by simpa using hc5
               rw [List.take_of_length_le hk2] at ht ⊢
               rw [if_pos (by simp only [Int.natCast_add]; omega)]; congr 1; simp only [Int.natCast_add]; omega)
        · skip
          have hb1 : (Bk.bulk u1 : Int) ≤ (left - (x1.length : Int) - (bulks (x1.take k) : Int)) := by
            rcases Int.decLt (left - (x1.length : Int) - (bulks (x1.take k) : Int)) (Bk.bulk u1 : Int) with hn | hn
            · omega
            · rw [if_neg (by omega)] at hc8; simp at hc8
          rw [if_pos hb1]
          have hnx : (left - (x1.length : Int) - (bulks (x1.take k) : Int)) - (Bk.bulk u1 : Int) = left - (x1.length : Int) - (bulks (x1.take (k + 1)) : Int) := by rw [hbs]; omega
          rw [hnx]
          refine W_skip ?_
          refine W_region ?_
          refine L_move rfl rfl ?_
          refine L_binV rfl rfl rfl (bv_addR (by unfold inR; omega)) ?_
          refine L_assign rfl rfl ?_
          refine L_nil ?_
          refine ⟨k + 1, (Sub.cons rfl (Sub.cons rfl (Sub.cons rfl (Sub.nil _)))), (MSub.nil _), ?_, ?_⟩
          · skip
            exact ⟨by omega, by omega⟩
          · skip
            (try dsimp only); omega
      · skip
        refine W_exit ?_
        refine W_seq ?_
        refine W_region ?_
        refine L_move rfl rfl ?_
        refine L_assign rfl rfl ?_
        refine L_nil ?_
        refine W_ret ?_
        -- return 3 (R10)
        refine res1 rfl (ResOK.tmp rfl) ⟨?_, rfl⟩ (MSub.nil _)
        first
          | (rw [if_neg (by simp only [Int.natCast_add]; omega)]; done)
          | (rw [if_neg (by have := bulks_take_le x1 (k + 1); simp only [Int.natCast_add]; omega)]; done)
          | (have hk2 : x1.length ≤ k := by simpa using hc5
             rw [List.take_of_length_le hk2] at ht ⊢
             rw [if_pos (by simp only [Int.natCast_add]; omega)]; congr 1; simp only [Int.natCast_add]; omega)

theorem toUp_spec (w : World) (t1 : T_Up) (h1 : GT.rd w [] t1) (hb : Bk.bulk t1 ≤ 1048576) : Spec Try.prog 65 [.agg (GT.cells t1).toArray].toArray w [] (fun v M => ∃ t2 : T_Up, v = .agg (GT.cells t2).toArray ∧ GT.dat t2 = GT.dat t1 ∧ M = [treeH t2]) := by
  obtain ⟨a1, a2, a3⟩ := t1
  have hbk_1 : Bk.bulk a2 ≤ 1048576 := by simp only [bulk_pair, bulk_int, bulk_bool, bulk_str] at hb ⊢; omega
  change Spec _ _ [Value.agg #[.string a1, a2.hdr, .int .i64 a3]].toArray w [] _
  refine Spec.intro Try.func65 rfl Try.ntmps65 rfl ?_
  refine W_seq ?_
  refine W_region ?_
  refine L_box rfl rfl (fun bk1 => ?_)
  refine L_alloc rfl zero82 (fun bk2 => ?_)
  refine L_nil ?_
  refine W_seq ?_
  refine W_region ?_
  refine L_alloc rfl zero82 (fun bk3 => ?_)
  refine L_nil ?_
  refine W_seq ?_
  refine W_region ?_
  refine L_fieldAddr rfl rfl fld96_0 ?_
  refine L_load rfl rfl (by first | exact RdC.blk (by repeat (first | exact List.Mem.head _ | apply List.Mem.tail))) one9 rfl ?_
  refine L_fieldAddr rfl rfl fld82_0 ?_
  refine L_store rfl rfl (by repeat (first | exact Pick.here _ | apply Pick.there)) one9 rfl rfl ?_
  refine L_nil ?_
  refine W_seq ?_
  refine W_region ?_
  refine L_fieldAddr rfl rfl fld96_1 ?_
  refine L_load rfl rfl (by first | exact RdC.blk (by repeat (first | exact List.Mem.head _ | apply List.Mem.tail))) one56 rfl ?_
  refine L_callR rfl fn76 rfl (by exact fun w hw => toIntS_spec w _ (rd_carry (h1.2.1) hw) hbk_1) ?_
  rintro v M1 ⟨n2t, hv, hd1, rfl⟩
  subst hv
  simp only [List.cons_append, List.nil_append]
  refine L_fieldAddr rfl rfl fld82_1 ?_
  refine L_store rfl rfl (by repeat (first | exact Pick.here _ | apply Pick.there)) one56 rfl rfl ?_
  refine L_nil ?_
  refine W_seq ?_
  refine W_region ?_
  refine L_fieldAddr rfl rfl fld96_2 ?_
  refine L_load rfl rfl (by first | exact RdC.blk (by repeat (first | exact List.Mem.head _ | apply List.Mem.tail))) one3 rfl ?_
  refine L_fieldAddr rfl rfl fld82_2 ?_
  refine L_store rfl rfl (by repeat (first | exact Pick.here _ | apply Pick.there)) one3 rfl rfl ?_
  refine L_nil ?_
  refine W_seq ?_
  refine W_region ?_
  refine L_loadW rfl rfl (by first | exact RdC.blk (by repeat (first | exact List.Mem.head _ | apply List.Mem.tail))) (by exact agg82) ?_
  refine L_storeW rfl rfl (by repeat (first | exact Pick.here _ | apply Pick.there)) (by exact agg82) (by rfl) (by first | (simp [Value.oneCell', TL.hdr]; done) | exact fun v hv => GT.one _ v hv) ?_
  refine L_nil ?_
  refine W_conv (M' := treeH ((a1, n2t, a3) : T_Up) :: _) (fun w h => (tree_snd (flat_str (h1.1)) (pairPick (by repeat (first | exact Pick.here _ | apply Pick.there)) (h.addFlat (flat_int (h1.2.2)))))) ?_
  refine W_ret ?_
  -- return 1 (R5)
  refine res1 rfl (ResOK.cell rfl (by repeat (first | exact List.Mem.head _ | apply List.Mem.tail)) (by exact agg82)) ⟨(a1, n2t, a3), rfl, by simp only [dat_pair, hd1], rfl⟩ (MSub.cons (by repeat (first | exact Pick.here _ | apply Pick.there)) (MSub.nil _))

theorem toUpS_spec (w : World) (t1 : TL T_Up) (h1 : GT.rd w [] t1) (hb : Bk.bulk t1 ≤ 1048576) : Spec Try.prog 51 [t1.hdr].toArray w [] (fun v M => ∃ t2 : TL T_Up, v = t2.hdr ∧ GT.dat t2 = GT.dat t1 ∧ M = [treeH t2]) := by
  obtain ⟨a1, c1, e1, x1, y1⟩ := t1
  rw [bulk_TL] at hb
  dsimp only [TL.hdr]
  refine Spec.intro Try.func51 rfl Try.ntmps51 rfl ?_
  refine W_seq ?_
  refine W_region ?_
  refine L_assign rfl rfl ?_
  refine L_nil ?_
  refine W_seq ?_
  refine W_region ?_
  refine L_move rfl rfl ?_
  refine L_lenS rfl rfl el45 ?_
  refine L_make (τ := T_Up) (ByteArray.empty, (TL.nil Int 0), (0 : Int)) rfl rfl rfl el50 rfl rfl (flat_pair (flat_str (by unfold okStr; decide)) (flat_pair (flat_nil 0) (flat_int (by unfold inR; omega)))) (by omega) (by unfold maxLen; omega) (fun g => ?_)
  refine L_assign rfl rfl ?_
  refine L_nil ?_
  refine W_seq ?_
  refine W_seq ?_
  refine W_region ?_
  refine L_assign rfl rfl ?_
  refine L_nil ?_
  refine W_block ?_
  refine W_loopC (σ := Nat × List T_Up) (0, List.replicate x1.length (ByteArray.empty, (TL.nil Int 0), (0 : Int))) (fun (p : Nat × List T_Up) => [(4, .int .i64 (p.1 : Int))]) (fun (p : Nat × List T_Up) => [treeH (⟨some ⟨g, 0, none⟩, x1.length, 82, p.2, []⟩ : TL T_Up)]) (fun (p : Nat × List T_Up) => p.1 ≤ x1.length ∧ p.2.length = x1.length ∧ (p.2.take p.1).map GT.dat = (x1.take p.1).map GT.dat) (fun (p : Nat × List T_Up) => x1.length - p.1) [(0, _), (3, _)] [] ?_ (Sub.cons rfl (Sub.cons rfl (Sub.cons rfl (Sub.nil _)))) (MSub.cons (by repeat (first | exact Pick.here _ | apply Pick.there)) (MSub.nil _)) ?_
  · skip
    exact ⟨Nat.zero_le _, by simp, by simp⟩
  · skip
    rintro ⟨k, cur⟩ ⟨hk, hlen, hdat⟩
    dsimp only at hk hlen hdat
    refine W_weaken (l' := [(0, _), (3, _), (4, _)]) (Sub.cons rfl (Sub.cons rfl (Sub.cons rfl (Sub.nil _)))) (M' := [_]) (MSub.cons (by repeat (first | exact Pick.here _ | apply Pick.there)) (MSub.nil _)) ?_
    refine W_seq ?_
    refine W_seq ?_
    refine W_region ?_
    refine L_move rfl rfl ?_
    refine L_move rfl rfl ?_
    refine L_lenS rfl rfl el45 ?_
    refine L_binV rfl rfl rfl bv_lss ?_
    refine L_nil ?_
    refine W_weaken (l' := [(0, _), (3, _), (4, _), (11, _)]) (Sub.cons rfl (Sub.cons rfl (Sub.cons rfl (Sub.cons rfl (Sub.nil _))))) (MSub.refl _) ?_
    refine W_cond rfl (fun hc3 => ?_) (fun hc3 => ?_)
    · skip
      have hk1 : k < x1.length := by simpa using hc3
      obtain ⟨g1, o1, rfl⟩ := rd_addr h1 hk1
      obtain ⟨u1, hu1⟩ := getEl hk1
      have hub : Bk.bulk u1 ≤ 1048576 := by have := bulk_mem (List.mem_of_getElem? hu1); omega
      refine W_skip ?_
      refine W_seq ?_
      refine W_block ?_
      refine W_region ?_
      refine L_move rfl rfl ?_
      refine L_move rfl rfl ?_
      refine L_move rfl rfl ?_
      refine L_move rfl rfl ?_
      refine L_indexAddr rfl rfl rfl el45 rfl (by omega) ?_
      refine L_loadW rfl rfl (by first | exact RdC.blk (by repeat (first | exact List.Mem.head _ | apply List.Mem.tail)) | exact RdC.old (Cells.el h1 rfl hu1)) (by exact agg96) ?_
      refine L_callR rfl fn65 rfl (by exact fun w hw => toUp_spec w _ (rd_carry (h1.2.2.1 _ (List.mem_of_getElem? hu1)) hw) hub) ?_
      rintro v M1 ⟨u2, hv, hd, rfl⟩
      subst hv
      simp only [List.cons_append, List.nil_append]
      refine L_indexAddr rfl rfl rfl el50 rfl (by omega) ?_
      obtain ⟨u0, hu0⟩ := getEl (show k < cur.length by omega)
      refine L_storeEl u2 rfl rfl (by repeat (first | exact Pick.here _ | apply Pick.there)) rfl hu0 rfl (by repeat (first | exact Pick.here _ | apply Pick.there)) (.inl agg82) ?_
      refine L_nil ?_
      refine W_region ?_
      refine L_move rfl rfl ?_
      refine L_binV rfl rfl rfl (bv_addR (by unfold inR; omega)) ?_
      refine L_assign rfl rfl ?_
      refine L_nil ?_
      refine ⟨(k + 1, cur.set k u2), (Sub.cons rfl (Sub.cons rfl (Sub.cons rfl (Sub.nil _)))), (MSub.cons (by repeat (first | exact Pick.here _ | apply Pick.there)) (MSub.nil _)), ?_, ?_⟩
      · skip
        exact ⟨by dsimp only; omega, by simpa using hlen, map_take_set GT.dat GT.dat hdat (by omega) hu1 hd⟩
      · skip
        dsimp only; omega
    · skip
      refine W_exit ?_
      refine W_seq ?_
      refine W_region ?_
      refine L_move rfl rfl ?_
      refine L_assign rfl rfl ?_
      refine L_nil ?_
      refine W_ret ?_
      -- return 1 (R6)
      refine res1 rfl (ResOK.tmp rfl) ⟨⟨some ⟨g, 0, none⟩, x1.length, 82, cur, []⟩, ?_, ?_, rfl⟩ (MSub.cons (by repeat (first | exact Pick.here _ | apply Pick.there)) (MSub.nil _))
      · show _ = Value.slice _ cur.length _
        rw [hlen]
      · have hk2 : x1.length ≤ k := by simpa using hc3
        rw [List.take_of_length_le (by omega), List.take_of_length_le (by omega)] at hdat
        exact hdat

theorem eqUps_spec (w : World) (t1 t2 : T_Ups) (h1 : GT.rd w [] t1) (h2 : GT.rd w [] t2) : Spec Try.prog 25 [.agg (GT.cells t1).toArray, .agg (GT.cells t2).toArray].toArray w [] (IsV (.bool (eqB (GT.dat t1) (GT.dat t2)))) := by
  obtain ⟨a1, a2⟩ := t1
  obtain ⟨b1, b2⟩ := t2
  change Spec _ _ [Value.agg #[.int .i64 a1, a2.hdr], Value.agg #[.int .i64 b1, b2.hdr]].toArray w [] _
  refine Spec.intro Try.func25 rfl Try.ntmps25 rfl ?_
  refine W_seq ?_
  refine W_region ?_
  refine L_box rfl rfl (fun bk2 => ?_)
  refine L_box rfl rfl (fun bk3 => ?_)
  refine L_assign rfl rfl ?_
  refine L_nil ?_
  refine W_seq ?_
  refine W_seq ?_
  refine W_region ?_
  refine L_fieldAddr rfl rfl fld52_0 ?_
  refine L_load rfl rfl (by first | exact RdC.blk (by repeat (first | exact List.Mem.head _ | apply List.Mem.tail))) one3 rfl ?_
  refine L_fieldAddr rfl rfl fld52_0 ?_
  refine L_load rfl rfl (by first | exact RdC.blk (by repeat (first | exact List.Mem.head _ | apply List.Mem.tail))) one3 rfl ?_
  refine L_binV rfl rfl rfl bv_neq ?_
  refine L_nil ?_
  refine W_weaken (l' := [(2, _), (3, _), (9, _)]) (Sub.cons rfl (Sub.cons rfl (Sub.cons rfl (Sub.nil _)))) (MSub.refl _) ?_
  refine W_cond rfl (fun hc1 => ?_) (fun hc1 => ?_)
  · skip
    refine W_seq ?_
    refine W_region ?_
    refine L_assign rfl rfl ?_
    refine L_nil ?_
    refine W_ret ?_
    -- return 1 (R2)
    refine res1 rfl (ResOK.tmp rfl) ⟨?_, rfl⟩ (MSub.nil _)
    clear h1 h2
    first
      | (refine congrArg Value.bool (Eq.symm (eqB_false.2 fun e => ?_)); simp only [dat_pair, dat_int, dat_bool, dat_str, Prod.mk.injEq] at e; simp_all; done)
      | (refine congrArg Value.bool (Eq.symm (eqB_true.2 ?_)); simp only [dat_pair, dat_int, dat_bool, dat_str, Prod.mk.injEq]; simp_all; done)
  · skip
    refine W_skip ?_
    refine W_seq ?_
    refine W_seq ?_
    refine W_region ?_
    refine L_fieldAddr rfl rfl fld52_1 ?_
    refine L_load rfl rfl (by first | exact RdC.blk (by repeat (first | exact List.Mem.head _ | apply List.Mem.tail))) one50 rfl ?_
    refine L_fieldAddr rfl rfl fld52_1 ?_
    refine L_load rfl rfl (by first | exact RdC.blk (by repeat (first | exact List.Mem.head _ | apply List.Mem.tail))) one50 rfl ?_
    refine L_callX rfl fn54 rfl (by exact fun w hw => eqUpS_spec w _ _ (rd_carry (h1.2) hw) (rd_carry (h2.2) hw)) ?_
    refine L_not rfl rfl ?_
    refine L_nil ?_
    refine W_weaken (l' := [(15, _)]) (Sub.cons rfl (Sub.nil _)) (MSub.refl _) ?_
    refine W_cond rfl (fun hc3 => ?_) (fun hc3 => ?_)
    · skip
      refine W_seq ?_
      refine W_region ?_
      refine L_assign rfl rfl ?_
      refine L_nil ?_
      refine W_ret ?_
      -- return 2 (R4)
      refine res1 rfl (ResOK.tmp rfl) ⟨?_, rfl⟩ (MSub.nil _)
      clear h1 h2
      first
        | (refine congrArg Value.bool (Eq.symm (eqB_false.2 fun e => ?_)); simp only [dat_pair, dat_int, dat_bool, dat_str, Prod.mk.injEq] at e; simp_all; done)
        | (refine congrArg Value.bool (Eq.symm (eqB_true.2 ?_)); simp only [dat_pair, dat_int, dat_bool, dat_str, Prod.mk.injEq]; simp_all; done)
    · skip
      refine W_skip ?_
      refine W_seq ?_
      refine W_region ?_
      refine L_assign rfl rfl ?_
      refine L_nil ?_
      refine W_ret ?_
      -- return 3 (R5)
      refine res1 rfl (ResOK.tmp rfl) ⟨?_, rfl⟩ (MSub.nil _)
      clear h1 h2
      first
        | (refine congrArg Value.bool (Eq.symm (eqB_false.2 fun e => ?_)); simp only [dat_pair, dat_int, dat_bool, dat_str, Prod.mk.injEq] at e; simp_all; done)
        | (refine congrArg Value.bool (Eq.symm (eqB_true.2 ?_)); simp only [dat_pair, dat_int, dat_bool, dat_str, Prod.mk.injEq]; simp_all; done)

theorem szUps_spec (w : World) (t1 : T_Ups) (left : Int) (hl : 0 ≤ left) (hm : left ≤ 1048576) (h1 : GT.rd w [] t1) : Spec Try.prog 21 [.agg (GT.cells t1).toArray, .int .i64 left].toArray w [] (IsV (.int .i64 (if (Bk.bulk t1 : Int) ≤ left then left - (Bk.bulk t1 : Int) else -1))) := by
  obtain ⟨a1, a2⟩ := t1
  change Spec _ _ [Value.agg #[.int .i64 a1, a2.hdr], .int .i64 left].toArray w [] _
  refine Spec.intro Try.func21 rfl Try.ntmps21 rfl ?_
  refine W_seq ?_
  refine W_region ?_
  refine L_box rfl rfl (fun bk2 => ?_)
  refine L_assign rfl rfl ?_
  refine L_nil ?_
  refine W_seq ?_
  refine W_region ?_
  refine L_fieldAddr rfl rfl fld47_1 ?_
  refine L_load rfl rfl (by first | exact RdC.blk (by repeat (first | exact List.Mem.head _ | apply List.Mem.tail))) one45 rfl ?_
  refine L_move rfl rfl ?_
  refine L_callX rfl fn48 rfl (by exact fun w hw => szUpS_spec w _ (left) (by omega) (by omega) (rd_carry (h1.2) hw)) ?_
  refine L_assign rfl rfl ?_
  refine L_nil ?_
  refine W_seq ?_
  refine W_seq ?_
  refine W_region ?_
  refine L_move rfl rfl ?_
  refine L_binV rfl rfl rfl bv_lss ?_
  refine L_nil ?_
  refine W_weaken (l' := [(1, _), (10, _)]) (Sub.cons rfl (Sub.cons rfl (Sub.nil _))) (MSub.refl _) ?_
  refine W_cond rfl (fun hc2 => ?_) (fun hc2 => ?_)
  · skip
    have hb1 : ¬ ((Bk.bulk a2 : Int) ≤ left) := by
      intro hn
      rw [if_pos hn] at hc2; simp at hc2; omega
    refine W_seq ?_
    refine W_region ?_
    refine L_assign rfl rfl ?_
    refine L_nil ?_
    refine W_ret ?_
    -- return 1 (R3)
    refine res1 rfl (ResOK.tmp rfl) ⟨?_, rfl⟩ (MSub.nil _)
    simp only [bulk_pair, bulk_int, bulk_bool, bulk_str, Int.natCast_add, Int.natCast_zero] at *
    first
      | (rw [if_pos (by omega)]; congr 1; omega)
      | (rw [if_neg (by omega)])
  · skip
    have hb1 : (Bk.bulk a2 : Int) ≤ left := by
      rcases Int.decLt (left) (Bk.bulk a2 : Int) with hn | hn
      · omega
      · rw [if_neg (by omega)] at hc2; simp at hc2
    rw [if_pos hb1]
    refine W_skip ?_
    refine W_seq ?_
    refine W_region ?_
    refine L_move rfl rfl ?_
    refine L_assign rfl rfl ?_
    refine L_nil ?_
    refine W_ret ?_
    -- return 2 (R4)
    refine res1 rfl (ResOK.tmp rfl) ⟨?_, rfl⟩ (MSub.nil _)
    simp only [bulk_pair, bulk_int, bulk_bool, bulk_str, Int.natCast_add, Int.natCast_zero] at *
    first
      | (rw [if_pos (by omega)]; congr 1; omega)
      | (rw [if_neg (by omega)])

theorem toUps_spec (w : World) (t1 : T_Ups) (h1 : GT.rd w [] t1) (hb : Bk.bulk t1 ≤ 1048576) : Spec Try.prog 23 [.agg (GT.cells t1).toArray].toArray w [] (fun v M => ∃ t2 : T_Ups, v = .agg (GT.cells t2).toArray ∧ GT.dat t2 = GT.dat t1 ∧ M = [treeH t2]) := by
  obtain ⟨a1, a2⟩ := t1
  have hbk_1 : Bk.bulk a2 ≤ 1048576 := by simp only [bulk_pair, bulk_int, bulk_bool, bulk_str] at hb ⊢; omega
  change Spec _ _ [Value.agg #[.int .i64 a1, a2.hdr]].toArray w [] _
  refine Spec.intro Try.func23 rfl Try.ntmps23 rfl ?_
  refine W_seq ?_
  refine W_region ?_
  refine L_box rfl rfl (fun bk1 => ?_)
  refine L_alloc rfl zero52 (fun bk2 => ?_)
  refine L_nil ?_
  refine W_seq ?_
  refine W_region ?_
  refine L_alloc rfl zero52 (fun bk3 => ?_)
  refine L_nil ?_
  refine W_seq ?_
  refine W_region ?_
  refine L_fieldAddr rfl rfl fld47_0 ?_
  refine L_load rfl rfl (by first | exact RdC.blk (by repeat (first | exact List.Mem.head _ | apply List.Mem.tail))) one3 rfl ?_
  refine L_fieldAddr rfl rfl fld52_0 ?_
  refine L_store rfl rfl (by repeat (first | exact Pick.here _ | apply Pick.there)) one3 rfl rfl ?_
  refine L_nil ?_
  refine W_seq ?_
  refine W_region ?_
  refine L_fieldAddr rfl rfl fld47_1 ?_
  refine L_load rfl rfl (by first | exact RdC.blk (by repeat (first | exact List.Mem.head _ | apply List.Mem.tail))) one45 rfl ?_
  refine L_callR rfl fn51 rfl (by exact fun w hw => toUpS_spec w _ (rd_carry (h1.2) hw) hbk_1) ?_
  rintro v M1 ⟨n2t, hv, hd1, rfl⟩
  subst hv
  simp only [List.cons_append, List.nil_append]
  refine L_fieldAddr rfl rfl fld52_1 ?_
  refine L_store rfl rfl (by repeat (first | exact Pick.here _ | apply Pick.there)) one50 rfl rfl ?_
  refine L_nil ?_
  refine W_seq ?_
  refine W_region ?_
  refine L_loadW rfl rfl (by first | exact RdC.blk (by repeat (first | exact List.Mem.head _ | apply List.Mem.tail))) (by exact agg52) ?_
  refine L_storeW rfl rfl (by repeat (first | exact Pick.here _ | apply Pick.there)) (by exact agg52) (by rfl) (by first | (simp [Value.oneCell', TL.hdr]; done) | exact fun v hv => GT.one _ v hv) ?_
  refine L_nil ?_
  refine W_conv (M' := treeH ((a1, n2t) : T_Ups) :: _) (fun w h => (tree_snd (flat_int (h1.1)) (frontPick (by repeat (first | exact Pick.here _ | apply Pick.there)) h))) ?_
  refine W_ret ?_
  -- return 1 (R4)
  refine res1 rfl (ResOK.cell rfl (by repeat (first | exact List.Mem.head _ | apply List.Mem.tail)) (by exact agg52)) ⟨(a1, n2t), rfl, by simp only [dat_pair, hd1], rfl⟩ (MSub.cons (by repeat (first | exact Pick.here _ | apply Pick.there)) (MSub.nil _))

end Go.Proofs.SL
