/- The families of the exact laws over the types that they are given: equality, size, copy, marks. -/
import Derived.Test.YthebgoognabinaaGreatFU
import Derived.Test.YthebgoognabinaaGreatRows
namespace Go.Proofs.SL
open Go
abbrev T_CSnap := ByteArray × ByteArray × (TL ByteArray)
abbrev T_CSet := ByteArray × (TL T_CSnap)
abbrev T_Catalog := (TL T_CSet)
theorem el55 : elOf Tryz.prog 55 = some (9, 1, 16, [.string ByteArray.empty]) := by kernel_rfl
theorem el79 : elOf Tryz.prog 79 = some (85, 3, 56, [.string ByteArray.empty, .string ByteArray.empty, .slice none 0 0]) := by kernel_rfl
theorem agg85 : aggOf Tryz.prog 85 = some 3 := by kernel_rfl
theorem el33 : elOf Tryz.prog 33 = some (81, 2, 40, [.string ByteArray.empty, .slice none 0 0]) := by kernel_rfl
theorem agg81 : aggOf Tryz.prog 81 = some 2 := by kernel_rfl
theorem fn77 : IsFn Tryz.prog 77 := ⟨_, Tryz.func77, by kernel_rfl, rfl⟩
theorem fn61 : IsFn Tryz.prog 61 := ⟨_, Tryz.func61, by kernel_rfl, rfl⟩
theorem fn38 : IsFn Tryz.prog 38 := ⟨_, Tryz.func38, by kernel_rfl, rfl⟩
theorem fld85_0 : fldOf Tryz.prog 85 0 = some 0 := by kernel_rfl
theorem fld85_1 : fldOf Tryz.prog 85 1 = some 1 := by kernel_rfl
theorem fld85_2 : fldOf Tryz.prog 85 2 = some 2 := by kernel_rfl
theorem one55 : oneOf Tryz.prog 55 = true := by kernel_rfl
theorem fn102 : IsFn Tryz.prog 102 := ⟨_, Tryz.func102, by kernel_rfl, rfl⟩
theorem fld117_0 : fldOf Tryz.prog 117 0 = some 0 := by kernel_rfl
theorem fld117_1 : fldOf Tryz.prog 117 1 = some 1 := by kernel_rfl
theorem fld117_2 : fldOf Tryz.prog 117 2 = some 2 := by kernel_rfl
theorem fn94 : IsFn Tryz.prog 94 := ⟨_, Tryz.func94, by kernel_rfl, rfl⟩
theorem zero85 : zeroOf Tryz.prog 85 = some [.string ByteArray.empty, .string ByteArray.empty, .slice none 0 0] := by kernel_rfl
theorem fn95 : IsFn Tryz.prog 95 := ⟨_, Tryz.func95, by kernel_rfl, rfl⟩
theorem fn93 : IsFn Tryz.prog 93 := ⟨_, Tryz.func93, by kernel_rfl, rfl⟩
theorem el73 : elOf Tryz.prog 73 = some (117, 3, 56, [.string ByteArray.empty, .string ByteArray.empty, .slice none 0 0]) := by kernel_rfl
theorem agg117 : aggOf Tryz.prog 117 = some 3 := by kernel_rfl
theorem fn78 : IsFn Tryz.prog 78 := ⟨_, Tryz.func78, by kernel_rfl, rfl⟩
theorem fn79 : IsFn Tryz.prog 79 := ⟨_, Tryz.func79, by kernel_rfl, rfl⟩
theorem fld81_0 : fldOf Tryz.prog 81 0 = some 0 := by kernel_rfl
theorem fld81_1 : fldOf Tryz.prog 81 1 = some 1 := by kernel_rfl
theorem one79 : oneOf Tryz.prog 79 = true := by kernel_rfl
theorem fn75 : IsFn Tryz.prog 75 := ⟨_, Tryz.func75, by kernel_rfl, rfl⟩
theorem fld75_0 : fldOf Tryz.prog 75 0 = some 0 := by kernel_rfl
theorem fld75_1 : fldOf Tryz.prog 75 1 = some 1 := by kernel_rfl
theorem one73 : oneOf Tryz.prog 73 = true := by kernel_rfl
theorem fn63 : IsFn Tryz.prog 63 := ⟨_, Tryz.func63, by kernel_rfl, rfl⟩
theorem zero81 : zeroOf Tryz.prog 81 = some [.string ByteArray.empty, .slice none 0 0] := by kernel_rfl
theorem fn66 : IsFn Tryz.prog 66 := ⟨_, Tryz.func66, by kernel_rfl, rfl⟩
theorem fn59 : IsFn Tryz.prog 59 := ⟨_, Tryz.func59, by kernel_rfl, rfl⟩
theorem el22 : elOf Tryz.prog 22 = some (75, 2, 40, [.string ByteArray.empty, .slice none 0 0]) := by kernel_rfl
theorem agg75 : aggOf Tryz.prog 75 = some 2 := by kernel_rfl
theorem fn41 : IsFn Tryz.prog 41 := ⟨_, Tryz.func41, by kernel_rfl, rfl⟩
theorem fn50 : IsFn Tryz.prog 50 := ⟨_, Tryz.func50, by kernel_rfl, rfl⟩
theorem fld35_0 : fldOf Tryz.prog 35 0 = some 0 := by kernel_rfl
theorem one33 : oneOf Tryz.prog 33 = true := by kernel_rfl
theorem fn36 : IsFn Tryz.prog 36 := ⟨_, Tryz.func36, by kernel_rfl, rfl⟩
theorem fld24_0 : fldOf Tryz.prog 24 0 = some 0 := by kernel_rfl
theorem one22 : oneOf Tryz.prog 22 = true := by kernel_rfl
theorem fn20 : IsFn Tryz.prog 20 := ⟨_, Tryz.func20, by kernel_rfl, rfl⟩
theorem zero35 : zeroOf Tryz.prog 35 = some [.slice none 0 0] := by kernel_rfl
theorem fn27 : IsFn Tryz.prog 27 := ⟨_, Tryz.func27, by kernel_rfl, rfl⟩
theorem agg35 : aggOf Tryz.prog 35 = some 1 := by kernel_rfl
theorem eqStringS_spec (w : World) (t1 t2 : TL ByteArray) (h1 : GT.rd w [] t1) (h2 : GT.rd w [] t2) : Spec Tryz.prog 102 [t1.hdr, t2.hdr].toArray w [] (IsV (.bool (eqB (GT.dat t1) (GT.dat t2)))) := by
  obtain ⟨a1, c1, e1, x1, y1⟩ := t1
  obtain ⟨a2, c2, e2, x2, y2⟩ := t2
  have hm1 : x1.length ≤ 9223372036854775807 := rd_len h1
  have hm2 : x2.length ≤ 9223372036854775807 := rd_len h2
  dsimp only [TL.hdr]
  refine Spec.intro Tryz.func102 rfl Tryz.ntmps102 rfl ?_
  refine W_seq ?_
  refine W_region ?_
  refine L_assign rfl rfl ?_
  refine L_nil ?_
  refine W_seq ?_
  refine W_seq ?_
  refine W_region ?_
  refine L_move rfl rfl ?_
  refine L_lenS rfl rfl el55 ?_
  refine L_move rfl rfl ?_
  refine L_lenS rfl rfl el55 ?_
  refine L_binV rfl rfl rfl bv_neq ?_
  refine L_nil ?_
  refine W_weaken (l' := [(0, _), (1, _), (10, _)]) (Sub.cons rfl (Sub.cons rfl (Sub.cons rfl (Sub.nil _)))) (MSub.refl _) ?_
  refine W_cond rfl (fun hc1 => ?_) (fun hc1 => ?_)
  · skip
    refine W_seq ?_
    refine W_region ?_
    refine L_assign rfl rfl ?_
    refine L_nil ?_
    refine W_ret ?_
    -- return 1 (R2)
    refine res1 rfl (ResOK.tmp rfl) ⟨?_, rfl⟩ (MSub.nil _)
    refine congrArg Value.bool (Eq.symm (eqB_false.2 fun e => ?_))
    simp at hc1
    exact hc1 (by have := congrArg List.length e; simp [dat_TL] at this; omega)
  · skip
    have hl : x1.length = x2.length := by simp at hc1; omega
    refine W_skip ?_
    refine W_seq ?_
    refine W_seq ?_
    refine W_region ?_
    refine L_assign rfl rfl ?_
    refine L_nil ?_
    refine W_block ?_
    refine W_loopC (σ := Nat) 0 (fun (k : Nat) => [(5, .int .i64 (k : Int))]) (fun (k : Nat) => []) (fun (k : Nat) => k ≤ x1.length ∧ (x1.map GT.dat).take k = (x2.map GT.dat).take k) (fun (k : Nat) => x1.length - k) [(0, _), (1, _)] [] ?_ (Sub.cons rfl (Sub.cons rfl (Sub.cons rfl (Sub.nil _)))) (MSub.nil _) ?_
    · skip
      exact ⟨Nat.zero_le _, rfl⟩
    · skip
      rintro k ⟨hk, ht⟩
      refine W_weaken (l' := [(0, _), (1, _), (5, _)]) (Sub.cons rfl (Sub.cons rfl (Sub.cons rfl (Sub.nil _)))) (M' := []) (MSub.nil _) ?_
      refine W_seq ?_
      refine W_seq ?_
      refine W_region ?_
      refine L_move rfl rfl ?_
      refine L_move rfl rfl ?_
      refine L_lenS rfl rfl el55 ?_
      refine L_binV rfl rfl rfl bv_lss ?_
      refine L_nil ?_
      refine W_weaken (l' := [(0, _), (1, _), (5, _), (14, _)]) (Sub.cons rfl (Sub.cons rfl (Sub.cons rfl (Sub.cons rfl (Sub.nil _))))) (MSub.refl _) ?_
      refine W_cond rfl (fun hc4 => ?_) (fun hc4 => ?_)
      · skip
        have hk1 : k < x1.length := by simpa using hc4
        obtain ⟨g1, o1, rfl⟩ := rd_addr h1 hk1
        obtain ⟨g2, o2, rfl⟩ := rd_addr (k := k) h2 (show k < x2.length by omega)
        obtain ⟨u1, hu1⟩ := getEl hk1
        obtain ⟨u2, hu2⟩ := getEl (show k < x2.length by omega)
        refine W_skip ?_
        refine W_seq ?_
        refine W_block ?_
        refine W_seq ?_
        refine W_D0 [25] mix (by kernel_rfl) rfl ?_
        refine D_move GC.none (OpV.t rfl) ?_
        refine D_move GC.none (OpV.t rfl) ?_
        refine D_indexAddr _ GC.none (OpV.t rfl) (OpV.t rfl) el55 (fun hg => ⟨rfl, by (try dsimp only); omega⟩) ?_
        refine D_load0 GC.none (OpV.t rfl) (fun hg => (by first | exact RdC.blk (by repeat (first | exact List.Mem.head _ | apply List.Mem.tail)) | exact RdC.old (Cells.el h1 rfl hu1) | exact RdC.old (Cells.el h2 rfl hu2))) one9 rfl ?_
        refine D_move GC.none (OpV.t rfl) ?_
        refine D_move GC.none (OpV.t rfl) ?_
        refine D_indexAddr _ GC.none (OpV.t rfl) (OpV.t rfl) el55 (fun hg => ⟨rfl, by (try dsimp only); omega⟩) ?_
        refine D_load0 GC.none (OpV.t rfl) (fun hg => (by first | exact RdC.blk (by repeat (first | exact List.Mem.head _ | apply List.Mem.tail)) | exact RdC.old (Cells.el h1 rfl hu1) | exact RdC.old (Cells.el h2 rfl hu2))) one9 rfl ?_
        refine D_bin GC.none (OpV.t rfl) (OpV.t rfl) (fun hg => bv_sneq) ?_
        refine DV_nil ?_
        refine Give_is rfl rfl ?_
        refine Give_drop rfl ?_
        refine Give_drop rfl ?_
        refine Give_drop rfl ?_
        refine Give_drop rfl ?_
        refine Give_drop rfl ?_
        refine Give_drop rfl ?_
        refine Give_drop rfl ?_
        refine Give_drop rfl ?_
        refine Give_nil ?_
        refine W_weaken (l' := [(0, _), (1, _), (5, _), (25, _)]) (Sub.cons rfl (Sub.cons rfl (Sub.cons rfl (Sub.cons rfl (Sub.nil _))))) (MSub.refl _) ?_
        refine W_cond rfl (fun hc6 => ?_) (fun hc6 => ?_)
        · skip
          refine W_seq ?_
          refine W_region ?_
          refine L_assign rfl rfl ?_
          refine L_nil ?_
          refine W_ret ?_
          -- return 2 (R7)
          refine res1 rfl (ResOK.tmp rfl) ⟨?_, rfl⟩ (MSub.nil _)
          refine congrArg Value.bool (Eq.symm (eqB_false.2 fun e => ?_))
          simp at hc6
          replace e : x1.map GT.dat = x2.map GT.dat := e
          have e2 := congrArg (fun l => l[k]?) e
          simp only [List.getElem?_map, hu1, hu2, Option.map_some, Option.some.injEq] at e2
          exact hc6 (by simpa [dat_int, dat_str, dat_bool] using e2)
        · skip
          refine W_skip ?_
          refine W_region ?_
          refine L_move rfl rfl ?_
          refine L_binV rfl rfl rfl (bv_addR (by unfold inR; omega)) ?_
          refine L_assign rfl rfl ?_
          refine L_nil ?_
          refine ⟨k + 1, (Sub.cons rfl (Sub.cons rfl (Sub.cons rfl (Sub.nil _)))), (MSub.nil _), ?_, ?_⟩
          · skip
            exact ⟨by omega, take_succ_eq ht (by rw [List.getElem?_map, hu1]; rfl) (by rw [List.getElem?_map, hu2]; rfl) (by simpa [dat_int, dat_str, dat_bool] using hc6)⟩
          · skip
            (try dsimp only); omega
      · skip
        refine W_exit ?_
        refine W_seq ?_
        refine W_region ?_
        refine L_assign rfl rfl ?_
        refine L_nil ?_
        refine W_ret ?_
        -- return 3 (R8)
        refine res1 rfl (ResOK.tmp rfl) ⟨?_, rfl⟩ (MSub.nil _)
        refine congrArg Value.bool (Eq.symm (eqB_true.2 ?_))
        have hk2 : x1.length ≤ k := by simpa using hc4
        have h3 := ht
        rw [List.take_of_length_le (by simp; omega), List.take_of_length_le (by simp; omega)] at h3
        exact h3

theorem szStringS_spec (w : World) (t1 : TL ByteArray) (left : Int) (hl : 0 ≤ left) (hm : left ≤ 1048576) (h1 : GT.rd w [] t1) (ho : Ok.ok (GT.dat t1)) : Spec Tryz.prog 94 [t1.hdr, .int .i64 left].toArray w [] (IsV (.int .i64 (if (Bk.bulk t1 : Int) ≤ left then left - (Bk.bulk t1 : Int) else -1))) := by
  obtain ⟨a1, c1, e1, x1, y1⟩ := t1
  have hm1 : x1.length ≤ 9223372036854775807 := rd_len h1
  rw [bulk_TL]
  dsimp only [TL.hdr]
  refine Spec.intro Tryz.func94 rfl Tryz.ntmps94 rfl ?_
  refine W_seq ?_
  refine W_region ?_
  refine L_assign rfl rfl ?_
  refine L_nil ?_
  refine W_seq ?_
  refine W_region ?_
  refine L_move rfl rfl ?_
  refine L_move rfl rfl ?_
  refine L_lenS rfl rfl el55 ?_
  refine L_binV rfl rfl rfl (bv_subR (by unfold inR; omega)) ?_
  refine L_assign rfl rfl ?_
  refine L_nil ?_
  refine W_seq ?_
  refine W_seq ?_
  refine W_region ?_
  refine L_move rfl rfl ?_
  refine L_binV rfl rfl rfl bv_lss ?_
  refine L_nil ?_
  refine W_weaken (l' := [(0, _), (1, _), (11, _)]) (Sub.cons rfl (Sub.cons rfl (Sub.cons rfl (Sub.nil _)))) (MSub.refl _) ?_
  refine W_cond rfl (fun hc2 => ?_) (fun hc2 => ?_)
  · skip
    have hb0 : left - (x1.length : Int) < 0 := by simpa using hc2
    refine W_seq ?_
    refine W_region ?_
    refine L_assign rfl rfl ?_
    refine L_nil ?_
    refine W_ret ?_
    -- return 1 (R3)
    refine res1 rfl (ResOK.tmp rfl) ⟨?_, rfl⟩ (MSub.nil _)
    first
      | (rw [if_neg (by simp only [Int.natCast_add]; omega)]; done)
      | (rw [if_neg (by have := bulks_take_le x1 (k + 1); simp only [Int.natCast_add]; omega)]; done)
      | (have hk2 : x1.length ≤ k := by simpa using hc5
         rw [List.take_of_length_le hk2] at ht ⊢
         rw [if_pos (by simp only [Int.natCast_add]; omega)]; congr 1; simp only [Int.natCast_add]; omega)
  · skip
    have hb0 : ¬ (left - (x1.length : Int) < 0) := by simpa using hc2
    refine W_skip ?_
    refine W_seq ?_
    refine W_seq ?_
    refine W_region ?_
    refine L_assign rfl rfl ?_
    refine L_nil ?_
    refine W_block ?_
    have h0 : left - (x1.length : Int) = left - (x1.length : Int) - (bulks (x1.take 0) : Int) := by simp [bulks]
    rw [h0]
    refine W_loopC (σ := Nat) 0 (fun (k : Nat) => [(1, .int .i64 (left - (x1.length : Int) - (bulks (x1.take k) : Int))), (5, .int .i64 (k : Int))]) (fun (k : Nat) => []) (fun (k : Nat) => k ≤ x1.length ∧ 0 ≤ (left - (x1.length : Int) - (bulks (x1.take k) : Int))) (fun (k : Nat) => x1.length - k) [(0, _)] [] ?_ (Sub.cons rfl (Sub.cons rfl (Sub.cons rfl (Sub.nil _)))) (MSub.nil _) ?_
    · skip
      exact ⟨Nat.zero_le _, by simp [bulks]; omega⟩
    · skip
      rintro k ⟨hk, ht⟩
      refine W_weaken (l' := [(0, _), (1, _), (5, _)]) (Sub.cons rfl (Sub.cons rfl (Sub.cons rfl (Sub.nil _)))) (M' := []) (MSub.nil _) ?_
      refine W_seq ?_
      refine W_seq ?_
      refine W_region ?_
      refine L_move rfl rfl ?_
      refine L_move rfl rfl ?_
      refine L_lenS rfl rfl el55 ?_
      refine L_binV rfl rfl rfl bv_lss ?_
      refine L_nil ?_
      refine W_weaken (l' := [(0, _), (1, _), (5, _), (15, _)]) (Sub.cons rfl (Sub.cons rfl (Sub.cons rfl (Sub.cons rfl (Sub.nil _))))) (MSub.refl _) ?_
      refine W_cond rfl (fun hc5 => ?_) (fun hc5 => ?_)
      · skip
        have hk1 : k < x1.length := by simpa using hc5
        obtain ⟨g1, o1, rfl⟩ := rd_addr h1 hk1
        obtain ⟨u1, hu1⟩ := getEl hk1
        have hbs := bulks_take_succ hu1
        have hble := bulks_take_le x1 (k + 1)
        have hus : u1.size ≤ 9223372036854775807 := ho.2 _ (List.mem_map.2 ⟨u1, List.mem_of_getElem? hu1, rfl⟩)
        rw [bulk_str] at hbs
        refine W_skip ?_
        refine W_seq ?_
        refine W_block ?_
        refine W_seq ?_
        refine W_region ?_
        refine L_move rfl rfl ?_
        refine L_move rfl rfl ?_
        refine L_move rfl rfl ?_
        refine L_indexAddr rfl rfl rfl el55 rfl (by omega) ?_
        refine L_load0 rfl rfl (by first | exact RdC.blk (by repeat (first | exact List.Mem.head _ | apply List.Mem.tail)) | exact RdC.old (Cells.el h1 rfl hu1)) one9 rfl ?_
        refine L_lenT rfl rfl str9 ?_
        refine L_binV rfl rfl rfl (bv_subR (by unfold inR; omega)) ?_
        refine L_assign rfl rfl ?_
        refine L_nil ?_
        refine W_seq ?_
        refine W_region ?_
        refine L_move rfl rfl ?_
        refine L_binV rfl rfl rfl bv_lss ?_
        refine L_nil ?_
        refine W_weaken (l' := [(0, _), (1, _), (5, _), (26, _)]) (Sub.cons rfl (Sub.cons rfl (Sub.cons rfl (Sub.cons rfl (Sub.nil _))))) (MSub.refl _) ?_
        refine W_cond rfl (fun hc8 => ?_) (fun hc8 => ?_)
        · skip
          have hb1 : (left - (x1.length : Int) - (bulks (x1.take k) : Int)) - (u1.size : Int) < 0 := by simpa using hc8
          refine W_seq ?_
          refine W_region ?_
          refine L_assign rfl rfl ?_
          refine L_nil ?_
          refine W_ret ?_
          -- return 2 (R9)
          refine res1 rfl (ResOK.tmp rfl) ⟨?_, rfl⟩ (MSub.nil _)
          first
            | (rw [if_neg (by simp only [Int.natCast_add]; omega)]; done)
            | (rw [if_neg (by have := bulks_take_le x1 (k + 1); simp only [Int.natCast_add]; omega)]; done)
            | (have hk2 : x1.length ≤ k := by simpa using hc5
               rw [List.take_of_length_le hk2] at ht ⊢
               rw [if_pos (by simp only [Int.natCast_add]; omega)]; congr 1; simp only [Int.natCast_add]; omega)
        · skip
          have hb1 : ¬ ((left - (x1.length : Int) - (bulks (x1.take k) : Int)) - (u1.size : Int) < 0) := by simpa using hc8
          have hnx : (left - (x1.length : Int) - (bulks (x1.take k) : Int)) - (u1.size : Int) = left - (x1.length : Int) - (bulks (x1.take (k + 1)) : Int) := by rw [hbs]; omega
          rw [hnx]
          refine W_skip ?_
          refine W_region ?_
          refine L_move rfl rfl ?_
          refine L_binV rfl rfl rfl (bv_addR (by unfold inR; omega)) ?_
          refine L_assign rfl rfl ?_
          refine L_nil ?_
          refine ⟨k + 1, (Sub.cons rfl (Sub.cons rfl (Sub.cons rfl (Sub.nil _)))), (MSub.nil _), ?_, ?_⟩
          · skip
            exact ⟨by omega, by omega⟩
          · skip
            (try dsimp only); omega
      · skip
        refine W_exit ?_
        refine W_seq ?_
        refine W_region ?_
        refine L_move rfl rfl ?_
        refine L_assign rfl rfl ?_
        refine L_nil ?_
        refine W_ret ?_
        -- return 3 (R10)
        refine res1 rfl (ResOK.tmp rfl) ⟨?_, rfl⟩ (MSub.nil _)
        first
          | (rw [if_neg (by simp only [Int.natCast_add]; omega)]; done)
          | (rw [if_neg (by have := bulks_take_le x1 (k + 1); simp only [Int.natCast_add]; omega)]; done)
          | (have hk2 : x1.length ≤ k := by simpa using hc5
             rw [List.take_of_length_le hk2] at ht ⊢
             rw [if_pos (by simp only [Int.natCast_add]; omega)]; congr 1; simp only [Int.natCast_add]; omega)

theorem toStringS_spec (w : World) (t1 : TL ByteArray) (h1 : GT.rd w [] t1) (hb : Bk.bulk t1 ≤ 1048576) : Spec Tryz.prog 95 [t1.hdr].toArray w [] (fun v M => ∃ t2 : TL ByteArray, v = t2.hdr ∧ GT.dat t2 = GT.dat t1 ∧ M = [treeH t2]) := by
  obtain ⟨a1, c1, e1, x1, y1⟩ := t1
  rw [bulk_TL] at hb
  dsimp only [TL.hdr]
  refine Spec.intro Tryz.func95 rfl Tryz.ntmps95 rfl ?_
  refine W_seq ?_
  refine W_region ?_
  refine L_assign rfl rfl ?_
  refine L_nil ?_
  refine W_seq ?_
  refine W_region ?_
  refine L_move rfl rfl ?_
  refine L_lenS rfl rfl el55 ?_
  refine L_make (τ := ByteArray) ByteArray.empty rfl rfl rfl el55 rfl rfl (flat_str trivial) (by omega) (by unfold maxLen; omega) (fun g => ?_)
  refine L_assign rfl rfl ?_
  refine L_nil ?_
  refine W_seq ?_
  refine W_seq ?_
  refine W_region ?_
  refine L_assign rfl rfl ?_
  refine L_nil ?_
  refine W_block ?_
  refine W_loopC (σ := Nat × List ByteArray) (0, List.replicate x1.length ByteArray.empty) (fun (p : Nat × List ByteArray) => [(4, .int .i64 (p.1 : Int))]) (fun (p : Nat × List ByteArray) => [treeH (⟨some ⟨g, 0, none⟩, x1.length, 9, p.2, []⟩ : TL ByteArray)]) (fun (p : Nat × List ByteArray) => p.1 ≤ x1.length ∧ p.2.length = x1.length ∧ (p.2.take p.1).map GT.dat = (x1.take p.1).map GT.dat) (fun (p : Nat × List ByteArray) => x1.length - p.1) [(0, _), (3, _)] [] ?_ (Sub.cons rfl (Sub.cons rfl (Sub.cons rfl (Sub.nil _)))) (MSub.cons (by repeat (first | exact Pick.here _ | apply Pick.there)) (MSub.nil _)) ?_
  · skip
    exact ⟨Nat.zero_le _, by simp, by simp⟩
  · skip
    rintro ⟨k, cur⟩ ⟨hk, hlen, hdat⟩
    dsimp only at hk hlen hdat
    refine W_weaken (l' := [(0, _), (3, _), (4, _)]) (Sub.cons rfl (Sub.cons rfl (Sub.cons rfl (Sub.nil _)))) (M' := [_]) (MSub.cons (by repeat (first | exact Pick.here _ | apply Pick.there)) (MSub.nil _)) ?_
    refine W_seq ?_
    refine W_seq ?_
    refine W_region ?_
    refine L_move rfl rfl ?_
    refine L_move rfl rfl ?_
    refine L_lenS rfl rfl el55 ?_
    refine L_binV rfl rfl rfl bv_lss ?_
    refine L_nil ?_
    refine W_weaken (l' := [(0, _), (3, _), (4, _), (11, _)]) (Sub.cons rfl (Sub.cons rfl (Sub.cons rfl (Sub.cons rfl (Sub.nil _))))) (MSub.refl _) ?_
    refine W_cond rfl (fun hc3 => ?_) (fun hc3 => ?_)
    · skip
      have hk1 : k < x1.length := by simpa using hc3
      obtain ⟨g1, o1, rfl⟩ := rd_addr h1 hk1
      obtain ⟨u1, hu1⟩ := getEl hk1
      have hub : Bk.bulk u1 ≤ 1048576 := by have := bulk_mem (List.mem_of_getElem? hu1); omega
      refine W_skip ?_
      refine W_seq ?_
      refine W_block ?_
      refine W_region ?_
      refine L_move rfl rfl ?_
      refine L_move rfl rfl ?_
      refine L_move rfl rfl ?_
      refine L_move rfl rfl ?_
      refine L_indexAddr rfl rfl rfl el55 rfl (by omega) ?_
      refine L_load0 rfl rfl (by first | exact RdC.blk (by repeat (first | exact List.Mem.head _ | apply List.Mem.tail)) | exact RdC.old (Cells.el h1 rfl hu1)) one9 rfl ?_
      refine L_indexAddr rfl rfl rfl el55 rfl (by omega) ?_
      obtain ⟨u0, hu0⟩ := getEl (show k < cur.length by omega)
      refine L_storeElV u1 rfl rfl (by repeat (first | exact Pick.here _ | apply Pick.there)) rfl hu0 rfl (flat_str (h1.2.2.1 _ (List.mem_of_getElem? hu1))) (.inr ⟨one9, rfl⟩) ?_
      refine L_nil ?_
      refine W_region ?_
      refine L_move rfl rfl ?_
      refine L_binV rfl rfl rfl (bv_addR (by unfold inR; omega)) ?_
      refine L_assign rfl rfl ?_
      refine L_nil ?_
      refine ⟨(k + 1, cur.set k u1), (Sub.cons rfl (Sub.cons rfl (Sub.cons rfl (Sub.nil _)))), (MSub.cons (by repeat (first | exact Pick.here _ | apply Pick.there)) (MSub.nil _)), ?_, ?_⟩
      · skip
        exact ⟨by dsimp only; omega, by simpa using hlen, map_take_set GT.dat GT.dat hdat (by omega) hu1 rfl⟩
      · skip
        dsimp only; omega
    · skip
      refine W_exit ?_
      refine W_seq ?_
      refine W_region ?_
      refine L_move rfl rfl ?_
      refine L_assign rfl rfl ?_
      refine L_nil ?_
      refine W_ret ?_
      -- return 1 (R6)
      refine res1 rfl (ResOK.tmp rfl) ⟨⟨some ⟨g, 0, none⟩, x1.length, 9, cur, []⟩, ?_, ?_, rfl⟩ (MSub.cons (by repeat (first | exact Pick.here _ | apply Pick.there)) (MSub.nil _))
      · show _ = Value.slice _ cur.length _
        rw [hlen]
      · have hk2 : x1.length ≤ k := by simpa using hc3
        rw [List.take_of_length_le (by omega), List.take_of_length_le (by omega)] at hdat
        exact hdat

theorem eqCSnap_spec (w : World) (t1 t2 : T_CSnap) (h1 : GT.rd w [] t1) (h2 : GT.rd w [] t2) : Spec Tryz.prog 93 [.agg (GT.cells t1).toArray, .agg (GT.cells t2).toArray].toArray w [] (IsV (.bool (eqB (GT.dat t1) (GT.dat t2)))) := by
  obtain ⟨a1, a2, a3⟩ := t1
  obtain ⟨b1, b2, b3⟩ := t2
  change Spec _ _ [Value.agg #[.string a1, .string a2, a3.hdr], Value.agg #[.string b1, .string b2, b3.hdr]].toArray w [] _
  refine Spec.intro Tryz.func93 rfl Tryz.ntmps93 rfl ?_
  refine W_seq ?_
  refine W_region ?_
  refine L_box rfl rfl (fun bk2 => ?_)
  refine L_box rfl rfl (fun bk3 => ?_)
  refine L_assign rfl rfl ?_
  refine L_nil ?_
  refine W_seq ?_
  refine W_seq ?_
  refine W_region ?_
  refine L_fieldAddr rfl rfl fld85_0 ?_
  refine L_load rfl rfl (by first | exact RdC.blk (by repeat (first | exact List.Mem.head _ | apply List.Mem.tail))) one9 rfl ?_
  refine L_fieldAddr rfl rfl fld85_0 ?_
  refine L_load rfl rfl (by first | exact RdC.blk (by repeat (first | exact List.Mem.head _ | apply List.Mem.tail))) one9 rfl ?_
  refine L_binV rfl rfl rfl bv_sneq ?_
  refine L_nil ?_
  refine W_weaken (l' := [(2, _), (3, _), (9, _)]) (Sub.cons rfl (Sub.cons rfl (Sub.cons rfl (Sub.nil _)))) (MSub.refl _) ?_
  refine W_cond rfl (fun hc1 => ?_) (fun hc1 => ?_)
  · skip
    refine W_seq ?_
    refine W_region ?_
    refine L_assign rfl rfl ?_
    refine L_nil ?_
    refine W_ret ?_
    -- return 1 (R2)
    refine res1 rfl (ResOK.tmp rfl) ⟨?_, rfl⟩ (MSub.nil _)
    clear h1 h2
    first
      | (refine congrArg Value.bool (Eq.symm (eqB_false.2 fun e => ?_)); try simp only [dat_pair, dat_int, dat_bool, dat_str, Prod.mk.injEq] at e; simp_all; done)
      | (refine congrArg Value.bool (Eq.symm (eqB_true.2 ?_)); try simp only [dat_pair, dat_int, dat_bool, dat_str, Prod.mk.injEq]; simp_all; done)
  · skip
    refine W_skip ?_
    refine W_seq ?_
    refine W_seq ?_
    refine W_region ?_
    refine L_fieldAddr rfl rfl fld85_1 ?_
    refine L_load rfl rfl (by first | exact RdC.blk (by repeat (first | exact List.Mem.head _ | apply List.Mem.tail))) one9 rfl ?_
    refine L_fieldAddr rfl rfl fld85_1 ?_
    refine L_load rfl rfl (by first | exact RdC.blk (by repeat (first | exact List.Mem.head _ | apply List.Mem.tail))) one9 rfl ?_
    refine L_binV rfl rfl rfl bv_sneq ?_
    refine L_nil ?_
    refine W_weaken (l' := [(2, _), (3, _), (14, _)]) (Sub.cons rfl (Sub.cons rfl (Sub.cons rfl (Sub.nil _)))) (MSub.refl _) ?_
    refine W_cond rfl (fun hc3 => ?_) (fun hc3 => ?_)
    · skip
      refine W_seq ?_
      refine W_region ?_
      refine L_assign rfl rfl ?_
      refine L_nil ?_
      refine W_ret ?_
      -- return 2 (R4)
      refine res1 rfl (ResOK.tmp rfl) ⟨?_, rfl⟩ (MSub.nil _)
      clear h1 h2
      first
        | (refine congrArg Value.bool (Eq.symm (eqB_false.2 fun e => ?_)); try simp only [dat_pair, dat_int, dat_bool, dat_str, Prod.mk.injEq] at e; simp_all; done)
        | (refine congrArg Value.bool (Eq.symm (eqB_true.2 ?_)); try simp only [dat_pair, dat_int, dat_bool, dat_str, Prod.mk.injEq]; simp_all; done)
    · skip
      refine W_skip ?_
      refine W_seq ?_
      refine W_seq ?_
      refine W_region ?_
      refine L_fieldAddr rfl rfl fld85_2 ?_
      refine L_load rfl rfl (by first | exact RdC.blk (by repeat (first | exact List.Mem.head _ | apply List.Mem.tail))) one55 rfl ?_
      refine L_fieldAddr rfl rfl fld85_2 ?_
      refine L_load rfl rfl (by first | exact RdC.blk (by repeat (first | exact List.Mem.head _ | apply List.Mem.tail))) one55 rfl ?_
      refine L_callX rfl fn102 rfl (by exact fun w hw => eqStringS_spec w _ _ (rd_carry (h1.2.2) hw) (rd_carry (h2.2.2) hw)) ?_
      refine L_not rfl rfl ?_
      refine L_nil ?_
      refine W_weaken (l' := [(20, _)]) (Sub.cons rfl (Sub.nil _)) (MSub.refl _) ?_
      refine W_cond rfl (fun hc5 => ?_) (fun hc5 => ?_)
      · skip
        refine W_seq ?_
        refine W_region ?_
        refine L_assign rfl rfl ?_
        refine L_nil ?_
        refine W_ret ?_
        -- return 3 (R6)
        refine res1 rfl (ResOK.tmp rfl) ⟨?_, rfl⟩ (MSub.nil _)
        clear h1 h2
        first
          | (refine congrArg Value.bool (Eq.symm (eqB_false.2 fun e => ?_)); try simp only [dat_pair, dat_int, dat_bool, dat_str, Prod.mk.injEq] at e; simp_all; done)
          | (refine congrArg Value.bool (Eq.symm (eqB_true.2 ?_)); try simp only [dat_pair, dat_int, dat_bool, dat_str, Prod.mk.injEq]; simp_all; done)
      · skip
        refine W_skip ?_
        refine W_seq ?_
        refine W_region ?_
        refine L_assign rfl rfl ?_
        refine L_nil ?_
        refine W_ret ?_
        -- return 4 (R7)
        refine res1 rfl (ResOK.tmp rfl) ⟨?_, rfl⟩ (MSub.nil _)
        clear h1 h2
        first
          | (refine congrArg Value.bool (Eq.symm (eqB_false.2 fun e => ?_)); try simp only [dat_pair, dat_int, dat_bool, dat_str, Prod.mk.injEq] at e; simp_all; done)
          | (refine congrArg Value.bool (Eq.symm (eqB_true.2 ?_)); try simp only [dat_pair, dat_int, dat_bool, dat_str, Prod.mk.injEq]; simp_all; done)

theorem szCSnap_spec (w : World) (t1 : T_CSnap) (left : Int) (hl : 0 ≤ left) (hm : left ≤ 1048576) (h1 : GT.rd w [] t1) (ho : Ok.ok (GT.dat t1)) : Spec Tryz.prog 78 [.agg (GT.cells t1).toArray, .int .i64 left].toArray w [] (IsV (.int .i64 (if (Bk.bulk t1 : Int) ≤ left then left - (Bk.bulk t1 : Int) else -1))) := by
  obtain ⟨a1, a2, a3⟩ := t1
  have hs0 : a1.size ≤ 9223372036854775807 := ho.1
  have hs1 : a2.size ≤ 9223372036854775807 := ho.2.1
  change Spec _ _ [Value.agg #[.string a1, .string a2, a3.hdr], .int .i64 left].toArray w [] _
  refine Spec.intro Tryz.func78 rfl Tryz.ntmps78 rfl ?_
  refine W_seq ?_
  refine W_region ?_
  refine L_box rfl rfl (fun bk2 => ?_)
  refine L_assign rfl rfl ?_
  refine L_nil ?_
  refine W_seq ?_
  refine W_region ?_
  refine L_move rfl rfl ?_
  refine L_fieldAddr rfl rfl fld117_0 ?_
  refine L_load rfl rfl (by first | exact RdC.blk (by repeat (first | exact List.Mem.head _ | apply List.Mem.tail))) one9 rfl ?_
  refine L_lenT rfl rfl str9 ?_
  refine L_binV rfl rfl rfl (bv_subR (by unfold inR; omega)) ?_
  refine L_assign rfl rfl ?_
  refine L_nil ?_
  refine W_seq ?_
  refine W_seq ?_
  refine W_region ?_
  refine L_move rfl rfl ?_
  refine L_binV rfl rfl rfl bv_lss ?_
  refine L_nil ?_
  refine W_weaken (l' := [(1, _), (2, _), (11, _)]) (Sub.cons rfl (Sub.cons rfl (Sub.cons rfl (Sub.nil _)))) (MSub.refl _) ?_
  refine W_cond rfl (fun hc2 => ?_) (fun hc2 => ?_)
  · skip
    have hb0 : left - (a1.size : Int) < 0 := by simpa using hc2
    refine W_seq ?_
    refine W_region ?_
    refine L_assign rfl rfl ?_
    refine L_nil ?_
    refine W_ret ?_
    -- return 1 (R3)
    refine res1 rfl (ResOK.tmp rfl) ⟨?_, rfl⟩ (MSub.nil _)
    try simp only [bulk_pair, bulk_int, bulk_bool, bulk_str, Int.natCast_add, Int.natCast_zero] at *
    all_goals first
      | rfl
      | (rw [if_pos (by omega)] <;> (congr 1 <;> omega))
      | (rw [if_neg (by omega)])
  · skip
    have hb0 : ¬ (left - (a1.size : Int) < 0) := by simpa using hc2
    refine W_skip ?_
    refine W_seq ?_
    refine W_region ?_
    refine L_move rfl rfl ?_
    refine L_fieldAddr rfl rfl fld117_1 ?_
    refine L_load rfl rfl (by first | exact RdC.blk (by repeat (first | exact List.Mem.head _ | apply List.Mem.tail))) one9 rfl ?_
    refine L_lenT rfl rfl str9 ?_
    refine L_binV rfl rfl rfl (bv_subR (by unfold inR; omega)) ?_
    refine L_assign rfl rfl ?_
    refine L_nil ?_
    refine W_seq ?_
    refine W_seq ?_
    refine W_region ?_
    refine L_move rfl rfl ?_
    refine L_binV rfl rfl rfl bv_lss ?_
    refine L_nil ?_
    refine W_weaken (l' := [(1, _), (2, _), (18, _)]) (Sub.cons rfl (Sub.cons rfl (Sub.cons rfl (Sub.nil _)))) (MSub.refl _) ?_
    refine W_cond rfl (fun hc5 => ?_) (fun hc5 => ?_)
    · skip
      have hb1 : left - (a1.size : Int) - (a2.size : Int) < 0 := by simpa using hc5
      refine W_seq ?_
      refine W_region ?_
      refine L_assign rfl rfl ?_
      refine L_nil ?_
      refine W_ret ?_
      -- return 2 (R6)
      refine res1 rfl (ResOK.tmp rfl) ⟨?_, rfl⟩ (MSub.nil _)
      try simp only [bulk_pair, bulk_int, bulk_bool, bulk_str, Int.natCast_add, Int.natCast_zero] at *
      all_goals first
        | rfl
        | (rw [if_pos (by omega)] <;> (congr 1 <;> omega))
        | (rw [if_neg (by omega)])
    · skip
      have hb1 : ¬ (left - (a1.size : Int) - (a2.size : Int) < 0) := by simpa using hc5
      refine W_skip ?_
      refine W_seq ?_
      refine W_region ?_
      refine L_fieldAddr rfl rfl fld117_2 ?_
      refine L_load rfl rfl (by first | exact RdC.blk (by repeat (first | exact List.Mem.head _ | apply List.Mem.tail))) one55 rfl ?_
      refine L_move rfl rfl ?_
      refine L_callX rfl fn94 rfl (by exact fun w hw => szStringS_spec w _ (left - (a1.size : Int) - (a2.size : Int)) (by omega) (by omega) (rd_carry (h1.2.2) hw) ho.2.2) ?_
      refine L_assign rfl rfl ?_
      refine L_nil ?_
      refine W_seq ?_
      refine W_seq ?_
      refine W_region ?_
      refine L_move rfl rfl ?_
      refine L_binV rfl rfl rfl bv_lss ?_
      refine L_nil ?_
      refine W_weaken (l' := [(1, _), (24, _)]) (Sub.cons rfl (Sub.cons rfl (Sub.nil _))) (MSub.refl _) ?_
      refine W_cond rfl (fun hc8 => ?_) (fun hc8 => ?_)
      · skip
        have hb2 : ¬ ((Bk.bulk a3 : Int) ≤ left - (a1.size : Int) - (a2.size : Int)) := by
          intro hn
          rw [if_pos hn] at hc8; simp at hc8; omega
        refine W_seq ?_
        refine W_region ?_
        refine L_assign rfl rfl ?_
        refine L_nil ?_
        refine W_ret ?_
        -- return 3 (R9)
        refine res1 rfl (ResOK.tmp rfl) ⟨?_, rfl⟩ (MSub.nil _)
        try simp only [bulk_pair, bulk_int, bulk_bool, bulk_str, Int.natCast_add, Int.natCast_zero] at *
        all_goals first
          | rfl
          | (rw [if_pos (by omega)] <;> (congr 1 <;> omega))
          | (rw [if_neg (by omega)])
      · skip
        have hb2 : (Bk.bulk a3 : Int) ≤ left - (a1.size : Int) - (a2.size : Int) := by
          rcases Int.decLt (left - (a1.size : Int) - (a2.size : Int)) (Bk.bulk a3 : Int) with hn | hn
          · omega
          · rw [if_neg (by omega)] at hc8; simp at hc8
        rw [if_pos hb2]
        refine W_skip ?_
        refine W_seq ?_
        refine W_region ?_
        refine L_move rfl rfl ?_
        refine L_assign rfl rfl ?_
        refine L_nil ?_
        refine W_ret ?_
        -- return 4 (R10)
        refine res1 rfl (ResOK.tmp rfl) ⟨?_, rfl⟩ (MSub.nil _)
        try simp only [bulk_pair, bulk_int, bulk_bool, bulk_str, Int.natCast_add, Int.natCast_zero] at *
        all_goals first
          | rfl
          | (rw [if_pos (by omega)] <;> (congr 1 <;> omega))
          | (rw [if_neg (by omega)])

theorem toCSnap_spec (w : World) (t1 : T_CSnap) (h1 : GT.rd w [] t1) (hb : Bk.bulk t1 ≤ 1048576) : Spec Tryz.prog 79 [.agg (GT.cells t1).toArray].toArray w [] (fun v M => ∃ t2 : T_CSnap, v = .agg (GT.cells t2).toArray ∧ GT.dat t2 = GT.dat t1 ∧ M = [treeH t2]) := by
  obtain ⟨a1, a2, a3⟩ := t1
  have hbk_2 : Bk.bulk a3 ≤ 1048576 := by (try simp only [bulk_pair, bulk_int, bulk_bool, bulk_str] at hb ⊢); omega
  change Spec _ _ [Value.agg #[.string a1, .string a2, a3.hdr]].toArray w [] _
  refine Spec.intro Tryz.func79 rfl Tryz.ntmps79 rfl ?_
  refine W_seq ?_
  refine W_region ?_
  refine L_box rfl rfl (fun bk1 => ?_)
  refine L_alloc rfl zero85 (fun bk2 => ?_)
  refine L_nil ?_
  refine W_seq ?_
  refine W_region ?_
  refine L_alloc rfl zero85 (fun bk3 => ?_)
  refine L_nil ?_
  refine W_seq ?_
  refine W_region ?_
  refine L_fieldAddr rfl rfl fld117_0 ?_
  refine L_load rfl rfl (by first | exact RdC.blk (by repeat (first | exact List.Mem.head _ | apply List.Mem.tail))) one9 rfl ?_
  refine L_fieldAddr rfl rfl fld85_0 ?_
  refine L_store rfl rfl (by repeat (first | exact Pick.here _ | apply Pick.there)) one9 rfl rfl ?_
  refine L_nil ?_
  refine W_seq ?_
  refine W_region ?_
  refine L_fieldAddr rfl rfl fld117_1 ?_
  refine L_load rfl rfl (by first | exact RdC.blk (by repeat (first | exact List.Mem.head _ | apply List.Mem.tail))) one9 rfl ?_
  refine L_fieldAddr rfl rfl fld85_1 ?_
  refine L_store rfl rfl (by repeat (first | exact Pick.here _ | apply Pick.there)) one9 rfl rfl ?_
  refine L_nil ?_
  refine W_seq ?_
  refine W_region ?_
  refine L_fieldAddr rfl rfl fld117_2 ?_
  refine L_load rfl rfl (by first | exact RdC.blk (by repeat (first | exact List.Mem.head _ | apply List.Mem.tail))) one55 rfl ?_
  refine L_callR rfl fn95 rfl (by exact fun w hw => toStringS_spec w _ (rd_carry (h1.2.2) hw) hbk_2) ?_
  rintro v M1 ⟨n3t, hv, hd2, rfl⟩
  subst hv
  simp only [List.cons_append, List.nil_append]
  refine L_fieldAddr rfl rfl fld85_2 ?_
  refine L_store rfl rfl (by repeat (first | exact Pick.here _ | apply Pick.there)) one55 rfl rfl ?_
  refine L_nil ?_
  refine W_seq ?_
  refine W_region ?_
  refine L_loadW rfl rfl (by first | exact RdC.blk (by repeat (first | exact List.Mem.head _ | apply List.Mem.tail))) (by exact agg85) ?_
  refine L_storeW rfl rfl (by repeat (first | exact Pick.here _ | apply Pick.there)) (by exact agg85) (by rfl) (by first | (simp [Value.oneCell', TL.hdr]; done) | (simp [Value.oneCell', TL.hdr, Value.cells]; done) | exact fun v hv => GT.one _ v hv) ?_
  refine L_nil ?_
  refine W_conv (M' := treeH ((a1, a2, n3t) : T_CSnap) :: _) (fun w h => (tree_snd (flat_str (h1.1)) (tree_snd (flat_str (h1.2.1)) (frontPick (by repeat (first | exact Pick.here _ | apply Pick.there)) h)))) ?_
  refine W_ret ?_
  -- return 1 (R5)
  refine res1 rfl (ResOK.cell rfl (by repeat (first | exact List.Mem.head _ | apply List.Mem.tail)) (by exact agg85)) ⟨(a1, a2, n3t), rfl, by simp only [dat_pair, hd2], rfl⟩ (MSub.cons (by repeat (first | exact Pick.here _ | apply Pick.there)) (MSub.nil _))

theorem eqCSnapS_spec (w : World) (t1 t2 : TL T_CSnap) (h1 : GT.rd w [] t1) (h2 : GT.rd w [] t2) : Spec Tryz.prog 75 [t1.hdr, t2.hdr].toArray w [] (IsV (.bool (eqB (GT.dat t1) (GT.dat t2)))) := by
  obtain ⟨a1, c1, e1, x1, y1⟩ := t1
  obtain ⟨a2, c2, e2, x2, y2⟩ := t2
  have hm1 : x1.length ≤ 9223372036854775807 := rd_len h1
  have hm2 : x2.length ≤ 9223372036854775807 := rd_len h2
  dsimp only [TL.hdr]
  refine Spec.intro Tryz.func75 rfl Tryz.ntmps75 rfl ?_
  refine W_seq ?_
  refine W_region ?_
  refine L_assign rfl rfl ?_
  refine L_nil ?_
  refine W_seq ?_
  refine W_seq ?_
  refine W_region ?_
  refine L_move rfl rfl ?_
  refine L_lenS rfl rfl el79 ?_
  refine L_move rfl rfl ?_
  refine L_lenS rfl rfl el79 ?_
  refine L_binV rfl rfl rfl bv_neq ?_
  refine L_nil ?_
  refine W_weaken (l' := [(0, _), (1, _), (10, _)]) (Sub.cons rfl (Sub.cons rfl (Sub.cons rfl (Sub.nil _)))) (MSub.refl _) ?_
  refine W_cond rfl (fun hc1 => ?_) (fun hc1 => ?_)
  · skip
    refine W_seq ?_
    refine W_region ?_
    refine L_assign rfl rfl ?_
    refine L_nil ?_
    refine W_ret ?_
    -- return 1 (R2)
    refine res1 rfl (ResOK.tmp rfl) ⟨?_, rfl⟩ (MSub.nil _)
    refine congrArg Value.bool (Eq.symm (eqB_false.2 fun e => ?_))
    simp at hc1
    exact hc1 (by have := congrArg List.length e; simp [dat_TL] at this; omega)
  · skip
    have hl : x1.length = x2.length := by simp at hc1; omega
    refine W_skip ?_
    refine W_seq ?_
    refine W_seq ?_
    refine W_region ?_
    refine L_assign rfl rfl ?_
    refine L_nil ?_
    refine W_block ?_
    refine W_loopC (σ := Nat) 0 (fun (k : Nat) => [(5, .int .i64 (k : Int))]) (fun (k : Nat) => []) (fun (k : Nat) => k ≤ x1.length ∧ (x1.map GT.dat).take k = (x2.map GT.dat).take k) (fun (k : Nat) => x1.length - k) [(0, _), (1, _)] [] ?_ (Sub.cons rfl (Sub.cons rfl (Sub.cons rfl (Sub.nil _)))) (MSub.nil _) ?_
    · skip
      exact ⟨Nat.zero_le _, rfl⟩
    · skip
      rintro k ⟨hk, ht⟩
      refine W_weaken (l' := [(0, _), (1, _), (5, _)]) (Sub.cons rfl (Sub.cons rfl (Sub.cons rfl (Sub.nil _)))) (M' := []) (MSub.nil _) ?_
      refine W_seq ?_
      refine W_seq ?_
      refine W_region ?_
      refine L_move rfl rfl ?_
      refine L_move rfl rfl ?_
      refine L_lenS rfl rfl el79 ?_
      refine L_binV rfl rfl rfl bv_lss ?_
      refine L_nil ?_
      refine W_weaken (l' := [(0, _), (1, _), (5, _), (14, _)]) (Sub.cons rfl (Sub.cons rfl (Sub.cons rfl (Sub.cons rfl (Sub.nil _))))) (MSub.refl _) ?_
      refine W_cond rfl (fun hc4 => ?_) (fun hc4 => ?_)
      · skip
        have hk1 : k < x1.length := by simpa using hc4
        obtain ⟨g1, o1, rfl⟩ := rd_addr h1 hk1
        obtain ⟨g2, o2, rfl⟩ := rd_addr (k := k) h2 (show k < x2.length by omega)
        obtain ⟨u1, hu1⟩ := getEl hk1
        obtain ⟨u2, hu2⟩ := getEl (show k < x2.length by omega)
        refine W_skip ?_
        refine W_seq ?_
        refine W_block ?_
        refine W_seq ?_
        refine W_D0 [26] mix (by kernel_rfl) rfl ?_
        refine D_move GC.none (OpV.t rfl) ?_
        refine D_move GC.none (OpV.t rfl) ?_
        refine D_indexAddr _ GC.none (OpV.t rfl) (OpV.t rfl) el79 (fun hg => ⟨rfl, by (try dsimp only); omega⟩) ?_
        refine D_loadW GC.none (OpV.t rfl) (fun hg => (by first | exact RdC.blk (by repeat (first | exact List.Mem.head _ | apply List.Mem.tail)) | exact RdC.old (Cells.el h1 rfl hu1) | exact RdC.old (Cells.el h2 rfl hu2))) (by exact agg85) ?_
        refine D_move GC.none (OpV.t rfl) ?_
        refine D_move GC.none (OpV.t rfl) ?_
        refine D_indexAddr _ GC.none (OpV.t rfl) (OpV.t rfl) el79 (fun hg => ⟨rfl, by (try dsimp only); omega⟩) ?_
        refine D_loadW GC.none (OpV.t rfl) (fun hg => (by first | exact RdC.blk (by repeat (first | exact List.Mem.head _ | apply List.Mem.tail)) | exact RdC.old (Cells.el h1 rfl hu1) | exact RdC.old (Cells.el h2 rfl hu2))) (by exact agg85) ?_
        refine D_callX GC.none fn93 (OpVs.cons (OpV.t rfl) (OpVs.cons (OpV.t rfl) (OpVs.nil))) (by exact fun hg w F hF hM => (fun w hw => eqCSnap_spec w _ _ (rd_carry (h1.2.2.1 _ (List.mem_of_getElem? hu1)) hw) (rd_carry (h2.2.2.1 _ (List.mem_of_getElem? hu2)) hw)) w hF) ?_
        refine D_not GC.none (OpV.t rfl) ?_
        refine DV_nil ?_
        refine Give_is rfl rfl ?_
        refine Give_drop rfl ?_
        refine Give_drop rfl ?_
        refine Give_drop rfl ?_
        refine Give_drop rfl ?_
        refine Give_drop rfl ?_
        refine Give_drop rfl ?_
        refine Give_drop rfl ?_
        refine Give_drop rfl ?_
        refine Give_drop rfl ?_
        refine Give_nil ?_
        refine W_weaken (l' := [(0, _), (1, _), (5, _), (26, _)]) (Sub.cons rfl (Sub.cons rfl (Sub.cons rfl (Sub.cons rfl (Sub.nil _))))) (MSub.refl _) ?_
        refine W_cond rfl (fun hc6 => ?_) (fun hc6 => ?_)
        · skip
          refine W_seq ?_
          refine W_region ?_
          refine L_assign rfl rfl ?_
          refine L_nil ?_
          refine W_ret ?_
          -- return 2 (R7)
          refine res1 rfl (ResOK.tmp rfl) ⟨?_, rfl⟩ (MSub.nil _)
          refine congrArg Value.bool (Eq.symm (eqB_false.2 fun e => ?_))
          simp at hc6
          replace e : x1.map GT.dat = x2.map GT.dat := e
          have e2 := congrArg (fun l => l[k]?) e
          simp only [List.getElem?_map, hu1, hu2, Option.map_some, Option.some.injEq] at e2
          exact hc6 (by simpa [dat_int, dat_str, dat_bool] using e2)
        · skip
          refine W_skip ?_
          refine W_region ?_
          refine L_move rfl rfl ?_
          refine L_binV rfl rfl rfl (bv_addR (by unfold inR; omega)) ?_
          refine L_assign rfl rfl ?_
          refine L_nil ?_
          refine ⟨k + 1, (Sub.cons rfl (Sub.cons rfl (Sub.cons rfl (Sub.nil _)))), (MSub.nil _), ?_, ?_⟩
          · skip
            exact ⟨by omega, take_succ_eq ht (by rw [List.getElem?_map, hu1]; rfl) (by rw [List.getElem?_map, hu2]; rfl) (by simpa [dat_int, dat_str, dat_bool] using hc6)⟩
          · skip
            (try dsimp only); omega
      · skip
        refine W_exit ?_
        refine W_seq ?_
        refine W_region ?_
        refine L_assign rfl rfl ?_
        refine L_nil ?_
        refine W_ret ?_
        -- return 3 (R8)
        refine res1 rfl (ResOK.tmp rfl) ⟨?_, rfl⟩ (MSub.nil _)
        refine congrArg Value.bool (Eq.symm (eqB_true.2 ?_))
        have hk2 : x1.length ≤ k := by simpa using hc4
        have h3 := ht
        rw [List.take_of_length_le (by simp; omega), List.take_of_length_le (by simp; omega)] at h3
        exact h3

theorem szCSnapS_spec (w : World) (t1 : TL T_CSnap) (left : Int) (hl : 0 ≤ left) (hm : left ≤ 1048576) (h1 : GT.rd w [] t1) (ho : Ok.ok (GT.dat t1)) : Spec Tryz.prog 63 [t1.hdr, .int .i64 left].toArray w [] (IsV (.int .i64 (if (Bk.bulk t1 : Int) ≤ left then left - (Bk.bulk t1 : Int) else -1))) := by
  obtain ⟨a1, c1, e1, x1, y1⟩ := t1
  have hm1 : x1.length ≤ 9223372036854775807 := rd_len h1
  rw [bulk_TL]
  dsimp only [TL.hdr]
  refine Spec.intro Tryz.func63 rfl Tryz.ntmps63 rfl ?_
  refine W_seq ?_
  refine W_region ?_
  refine L_assign rfl rfl ?_
  refine L_nil ?_
  refine W_seq ?_
  refine W_region ?_
  refine L_move rfl rfl ?_
  refine L_move rfl rfl ?_
  refine L_lenS rfl rfl el73 ?_
  refine L_binV rfl rfl rfl (bv_subR (by unfold inR; omega)) ?_
  refine L_assign rfl rfl ?_
  refine L_nil ?_
  refine W_seq ?_
  refine W_seq ?_
  refine W_region ?_
  refine L_move rfl rfl ?_
  refine L_binV rfl rfl rfl bv_lss ?_
  refine L_nil ?_
  refine W_weaken (l' := [(0, _), (1, _), (11, _)]) (Sub.cons rfl (Sub.cons rfl (Sub.cons rfl (Sub.nil _)))) (MSub.refl _) ?_
  refine W_cond rfl (fun hc2 => ?_) (fun hc2 => ?_)
  · skip
    have hb0 : left - (x1.length : Int) < 0 := by simpa using hc2
    refine W_seq ?_
    refine W_region ?_
    refine L_assign rfl rfl ?_
    refine L_nil ?_
    refine W_ret ?_
    -- return 1 (R3)
    refine res1 rfl (ResOK.tmp rfl) ⟨?_, rfl⟩ (MSub.nil _)
    first
      | (rw [if_neg (by simp only [Int.natCast_add]; omega)]; done)
      | (rw [if_neg (by have := bulks_take_le x1 (k + 1); simp only [Int.natCast_add]; omega)]; done)
      | (have hk2 : x1.length ≤ k := by simpa using hc5
         rw [List.take_of_length_le hk2] at ht ⊢
         rw [if_pos (by simp only [Int.natCast_add]; omega)]; congr 1; simp only [Int.natCast_add]; omega)
  · skip
    have hb0 : ¬ (left - (x1.length : Int) < 0) := by simpa using hc2
    refine W_skip ?_
    refine W_seq ?_
    refine W_seq ?_
    refine W_region ?_
    refine L_assign rfl rfl ?_
    refine L_nil ?_
    refine W_block ?_
    have h0 : left - (x1.length : Int) = left - (x1.length : Int) - (bulks (x1.take 0) : Int) := by simp [bulks]
    rw [h0]
    refine W_loopC (σ := Nat) 0 (fun (k : Nat) => [(1, .int .i64 (left - (x1.length : Int) - (bulks (x1.take k) : Int))), (5, .int .i64 (k : Int))]) (fun (k : Nat) => []) (fun (k : Nat) => k ≤ x1.length ∧ 0 ≤ (left - (x1.length : Int) - (bulks (x1.take k) : Int))) (fun (k : Nat) => x1.length - k) [(0, _)] [] ?_ (Sub.cons rfl (Sub.cons rfl (Sub.cons rfl (Sub.nil _)))) (MSub.nil _) ?_
    · skip
      exact ⟨Nat.zero_le _, by simp [bulks]; omega⟩
    · skip
      rintro k ⟨hk, ht⟩
      refine W_weaken (l' := [(0, _), (1, _), (5, _)]) (Sub.cons rfl (Sub.cons rfl (Sub.cons rfl (Sub.nil _)))) (M' := []) (MSub.nil _) ?_
      refine W_seq ?_
      refine W_seq ?_
      refine W_region ?_
      refine L_move rfl rfl ?_
      refine L_move rfl rfl ?_
      refine L_lenS rfl rfl el73 ?_
      refine L_binV rfl rfl rfl bv_lss ?_
      refine L_nil ?_
      refine W_weaken (l' := [(0, _), (1, _), (5, _), (15, _)]) (Sub.cons rfl (Sub.cons rfl (Sub.cons rfl (Sub.cons rfl (Sub.nil _))))) (MSub.refl _) ?_
      refine W_cond rfl (fun hc5 => ?_) (fun hc5 => ?_)
      · skip
        have hk1 : k < x1.length := by simpa using hc5
        obtain ⟨g1, o1, rfl⟩ := rd_addr h1 hk1
        obtain ⟨u1, hu1⟩ := getEl hk1
        have hbs := bulks_take_succ hu1
        have hble := bulks_take_le x1 (k + 1)
        refine W_skip ?_
        refine W_seq ?_
        refine W_block ?_
        refine W_seq ?_
        refine W_region ?_
        refine L_move rfl rfl ?_
        refine L_move rfl rfl ?_
        refine L_indexAddr rfl rfl rfl el73 rfl (by omega) ?_
        refine L_loadW rfl rfl (by first | exact RdC.blk (by repeat (first | exact List.Mem.head _ | apply List.Mem.tail)) | exact RdC.old (Cells.el h1 rfl hu1)) (by exact agg117) ?_
        refine L_move rfl rfl ?_
        refine L_callX rfl fn78 rfl (by exact fun w hw => szCSnap_spec w _ _ (by omega) (by omega) (rd_carry (h1.2.2.1 _ (List.mem_of_getElem? hu1)) hw) (ho.2 _ (List.mem_map.2 ⟨u1, List.mem_of_getElem? hu1, rfl⟩))) ?_
        refine L_assign rfl rfl ?_
        refine L_nil ?_
        refine W_seq ?_
        refine W_region ?_
        refine L_move rfl rfl ?_
        refine L_binV rfl rfl rfl bv_lss ?_
        refine L_nil ?_
        refine W_weaken (l' := [(0, _), (1, _), (5, _), (25, _)]) (Sub.cons rfl (Sub.cons rfl (Sub.cons rfl (Sub.cons rfl (Sub.nil _))))) (MSub.refl _) ?_
        refine W_cond rfl (fun hc8 => ?_) (fun hc8 => ?_)
        · skip
          have hb1 : ¬ ((Bk.bulk u1 : Int) ≤ (left - (x1.length : Int) - (bulks (x1.take k) : Int))) := by
            intro hn
            rw [if_pos hn] at hc8; simp at hc8; omega
          refine W_seq ?_
          refine W_region ?_
          refine L_assign rfl rfl ?_
          refine L_nil ?_
          refine W_ret ?_
          -- return 2 (R9)
          refine res1 rfl (ResOK.tmp rfl) ⟨?_, rfl⟩ (MSub.nil _)
          first
            | (rw [if_neg (by simp only [Int.natCast_add]; omega)]; done)
            | (rw [if_neg (by have := bulks_take_le x1 (k + 1); simp only [Int.natCast_add]; omega)]; done)
            | (have hk2 : x1.length ≤ k := by simpa using hc5
               rw [List.take_of_length_le hk2] at ht ⊢
               rw [if_pos (by simp only [Int.natCast_add]; omega)]; congr 1; simp only [Int.natCast_add]; omega)
        · skip
          have hb1 : (Bk.bulk u1 : Int) ≤ (left - (x1.length : Int) - (bulks (x1.take k) : Int)) := by
            rcases Int.decLt (left - (x1.length : Int) - (bulks (x1.take k) : Int)) (Bk.bulk u1 : Int) with hn | hn
            · omega
            · rw [if_neg (by omega)] at hc8; simp at hc8
          rw [if_pos hb1]
          have hnx : (left - (x1.length : Int) - (bulks (x1.take k) : Int)) - (Bk.bulk u1 : Int) = left - (x1.length : Int) - (bulks (x1.take (k + 1)) : Int) := by rw [hbs]; omega
          rw [hnx]
          refine W_skip ?_
          refine W_region ?_
          refine L_move rfl rfl ?_
          refine L_binV rfl rfl rfl (bv_addR (by unfold inR; omega)) ?_
          refine L_assign rfl rfl ?_
          refine L_nil ?_
          refine ⟨k + 1, (Sub.cons rfl (Sub.cons rfl (Sub.cons rfl (Sub.nil _)))), (MSub.nil _), ?_, ?_⟩
          · skip
            exact ⟨by omega, by omega⟩
          · skip
            (try dsimp only); omega
      · skip
        refine W_exit ?_
        refine W_seq ?_
        refine W_region ?_
        refine L_move rfl rfl ?_
        refine L_assign rfl rfl ?_
        refine L_nil ?_
        refine W_ret ?_
        -- return 3 (R10)
        refine res1 rfl (ResOK.tmp rfl) ⟨?_, rfl⟩ (MSub.nil _)
        first
          | (rw [if_neg (by simp only [Int.natCast_add]; omega)]; done)
          | (rw [if_neg (by have := bulks_take_le x1 (k + 1); simp only [Int.natCast_add]; omega)]; done)
          | (have hk2 : x1.length ≤ k := by simpa using hc5
             rw [List.take_of_length_le hk2] at ht ⊢
             rw [if_pos (by simp only [Int.natCast_add]; omega)]; congr 1; simp only [Int.natCast_add]; omega)

theorem toCSnapS_spec (w : World) (t1 : TL T_CSnap) (h1 : GT.rd w [] t1) (hb : Bk.bulk t1 ≤ 1048576) : Spec Tryz.prog 66 [t1.hdr].toArray w [] (fun v M => ∃ t2 : TL T_CSnap, v = t2.hdr ∧ GT.dat t2 = GT.dat t1 ∧ M = [treeH t2]) := by
  obtain ⟨a1, c1, e1, x1, y1⟩ := t1
  rw [bulk_TL] at hb
  dsimp only [TL.hdr]
  refine Spec.intro Tryz.func66 rfl Tryz.ntmps66 rfl ?_
  refine W_seq ?_
  refine W_region ?_
  refine L_assign rfl rfl ?_
  refine L_nil ?_
  refine W_seq ?_
  refine W_region ?_
  refine L_move rfl rfl ?_
  refine L_lenS rfl rfl el73 ?_
  refine L_make (τ := T_CSnap) (ByteArray.empty, ByteArray.empty, (TL.nil ByteArray 0)) rfl rfl rfl el79 rfl rfl (flat_pair (flat_str trivial) (flat_pair (flat_str trivial) (flat_nil 0))) (by omega) (by unfold maxLen; omega) (fun g => ?_)
  refine L_assign rfl rfl ?_
  refine L_nil ?_
  refine W_seq ?_
  refine W_seq ?_
  refine W_region ?_
  refine L_assign rfl rfl ?_
  refine L_nil ?_
  refine W_block ?_
  refine W_loopC (σ := Nat × List T_CSnap) (0, List.replicate x1.length (ByteArray.empty, ByteArray.empty, (TL.nil ByteArray 0))) (fun (p : Nat × List T_CSnap) => [(4, .int .i64 (p.1 : Int))]) (fun (p : Nat × List T_CSnap) => [treeH (⟨some ⟨g, 0, none⟩, x1.length, 85, p.2, []⟩ : TL T_CSnap)]) (fun (p : Nat × List T_CSnap) => p.1 ≤ x1.length ∧ p.2.length = x1.length ∧ (p.2.take p.1).map GT.dat = (x1.take p.1).map GT.dat) (fun (p : Nat × List T_CSnap) => x1.length - p.1) [(0, _), (3, _)] [] ?_ (Sub.cons rfl (Sub.cons rfl (Sub.cons rfl (Sub.nil _)))) (MSub.cons (by repeat (first | exact Pick.here _ | apply Pick.there)) (MSub.nil _)) ?_
  · skip
    exact ⟨Nat.zero_le _, by simp, by simp⟩
  · skip
    rintro ⟨k, cur⟩ ⟨hk, hlen, hdat⟩
    dsimp only at hk hlen hdat
    refine W_weaken (l' := [(0, _), (3, _), (4, _)]) (Sub.cons rfl (Sub.cons rfl (Sub.cons rfl (Sub.nil _)))) (M' := [_]) (MSub.cons (by repeat (first | exact Pick.here _ | apply Pick.there)) (MSub.nil _)) ?_
    refine W_seq ?_
    refine W_seq ?_
    refine W_region ?_
    refine L_move rfl rfl ?_
    refine L_move rfl rfl ?_
    refine L_lenS rfl rfl el73 ?_
    refine L_binV rfl rfl rfl bv_lss ?_
    refine L_nil ?_
    refine W_weaken (l' := [(0, _), (3, _), (4, _), (11, _)]) (Sub.cons rfl (Sub.cons rfl (Sub.cons rfl (Sub.cons rfl (Sub.nil _))))) (MSub.refl _) ?_
    refine W_cond rfl (fun hc3 => ?_) (fun hc3 => ?_)
    · skip
      have hk1 : k < x1.length := by simpa using hc3
      obtain ⟨g1, o1, rfl⟩ := rd_addr h1 hk1
      obtain ⟨u1, hu1⟩ := getEl hk1
      have hub : Bk.bulk u1 ≤ 1048576 := by have := bulk_mem (List.mem_of_getElem? hu1); omega
      refine W_skip ?_
      refine W_seq ?_
      refine W_block ?_
      refine W_region ?_
      refine L_move rfl rfl ?_
      refine L_move rfl rfl ?_
      refine L_move rfl rfl ?_
      refine L_move rfl rfl ?_
      refine L_indexAddr rfl rfl rfl el73 rfl (by omega) ?_
      refine L_loadW rfl rfl (by first | exact RdC.blk (by repeat (first | exact List.Mem.head _ | apply List.Mem.tail)) | exact RdC.old (Cells.el h1 rfl hu1)) (by exact agg117) ?_
      refine L_callR rfl fn79 rfl (by exact fun w hw => toCSnap_spec w _ (rd_carry (h1.2.2.1 _ (List.mem_of_getElem? hu1)) hw) hub) ?_
      rintro v M1 ⟨u2, hv, hd, rfl⟩
      subst hv
      simp only [List.cons_append, List.nil_append]
      refine L_indexAddr rfl rfl rfl el79 rfl (by omega) ?_
      obtain ⟨u0, hu0⟩ := getEl (show k < cur.length by omega)
      refine L_storeEl u2 rfl rfl (by repeat (first | exact Pick.here _ | apply Pick.there)) rfl hu0 rfl (by repeat (first | exact Pick.here _ | apply Pick.there)) (.inl agg85) ?_
      refine L_nil ?_
      refine W_region ?_
      refine L_move rfl rfl ?_
      refine L_binV rfl rfl rfl (bv_addR (by unfold inR; omega)) ?_
      refine L_assign rfl rfl ?_
      refine L_nil ?_
      refine ⟨(k + 1, cur.set k u2), (Sub.cons rfl (Sub.cons rfl (Sub.cons rfl (Sub.nil _)))), (MSub.cons (by repeat (first | exact Pick.here _ | apply Pick.there)) (MSub.nil _)), ?_, ?_⟩
      · skip
        exact ⟨by dsimp only; omega, by simpa using hlen, map_take_set GT.dat GT.dat hdat (by omega) hu1 hd⟩
      · skip
        dsimp only; omega
    · skip
      refine W_exit ?_
      refine W_seq ?_
      refine W_region ?_
      refine L_move rfl rfl ?_
      refine L_assign rfl rfl ?_
      refine L_nil ?_
      refine W_ret ?_
      -- return 1 (R6)
      refine res1 rfl (ResOK.tmp rfl) ⟨⟨some ⟨g, 0, none⟩, x1.length, 85, cur, []⟩, ?_, ?_, rfl⟩ (MSub.cons (by repeat (first | exact Pick.here _ | apply Pick.there)) (MSub.nil _))
      · show _ = Value.slice _ cur.length _
        rw [hlen]
      · have hk2 : x1.length ≤ k := by simpa using hc3
        rw [List.take_of_length_le (by omega), List.take_of_length_le (by omega)] at hdat
        exact hdat

theorem eqCSet_spec (w : World) (t1 t2 : T_CSet) (h1 : GT.rd w [] t1) (h2 : GT.rd w [] t2) : Spec Tryz.prog 59 [.agg (GT.cells t1).toArray, .agg (GT.cells t2).toArray].toArray w [] (IsV (.bool (eqB (GT.dat t1) (GT.dat t2)))) := by
  obtain ⟨a1, a2⟩ := t1
  obtain ⟨b1, b2⟩ := t2
  change Spec _ _ [Value.agg #[.string a1, a2.hdr], Value.agg #[.string b1, b2.hdr]].toArray w [] _
  refine Spec.intro Tryz.func59 rfl Tryz.ntmps59 rfl ?_
  refine W_seq ?_
  refine W_region ?_
  refine L_box rfl rfl (fun bk2 => ?_)
  refine L_box rfl rfl (fun bk3 => ?_)
  refine L_assign rfl rfl ?_
  refine L_nil ?_
  refine W_seq ?_
  refine W_seq ?_
  refine W_region ?_
  refine L_fieldAddr rfl rfl fld81_0 ?_
  refine L_load rfl rfl (by first | exact RdC.blk (by repeat (first | exact List.Mem.head _ | apply List.Mem.tail))) one9 rfl ?_
  refine L_fieldAddr rfl rfl fld81_0 ?_
  refine L_load rfl rfl (by first | exact RdC.blk (by repeat (first | exact List.Mem.head _ | apply List.Mem.tail))) one9 rfl ?_
  refine L_binV rfl rfl rfl bv_sneq ?_
  refine L_nil ?_
  refine W_weaken (l' := [(2, _), (3, _), (9, _)]) (Sub.cons rfl (Sub.cons rfl (Sub.cons rfl (Sub.nil _)))) (MSub.refl _) ?_
  refine W_cond rfl (fun hc1 => ?_) (fun hc1 => ?_)
  · skip
    refine W_seq ?_
    refine W_region ?_
    refine L_assign rfl rfl ?_
    refine L_nil ?_
    refine W_ret ?_
    -- return 1 (R2)
    refine res1 rfl (ResOK.tmp rfl) ⟨?_, rfl⟩ (MSub.nil _)
    clear h1 h2
    first
      | (refine congrArg Value.bool (Eq.symm (eqB_false.2 fun e => ?_)); try simp only [dat_pair, dat_int, dat_bool, dat_str, Prod.mk.injEq] at e; simp_all; done)
      | (refine congrArg Value.bool (Eq.symm (eqB_true.2 ?_)); try simp only [dat_pair, dat_int, dat_bool, dat_str, Prod.mk.injEq]; simp_all; done)
  · skip
    refine W_skip ?_
    refine W_seq ?_
    refine W_seq ?_
    refine W_region ?_
    refine L_fieldAddr rfl rfl fld81_1 ?_
    refine L_load rfl rfl (by first | exact RdC.blk (by repeat (first | exact List.Mem.head _ | apply List.Mem.tail))) one79 rfl ?_
    refine L_fieldAddr rfl rfl fld81_1 ?_
    refine L_load rfl rfl (by first | exact RdC.blk (by repeat (first | exact List.Mem.head _ | apply List.Mem.tail))) one79 rfl ?_
    refine L_callX rfl fn75 rfl (by exact fun w hw => eqCSnapS_spec w _ _ (rd_carry (h1.2) hw) (rd_carry (h2.2) hw)) ?_
    refine L_not rfl rfl ?_
    refine L_nil ?_
    refine W_weaken (l' := [(15, _)]) (Sub.cons rfl (Sub.nil _)) (MSub.refl _) ?_
    refine W_cond rfl (fun hc3 => ?_) (fun hc3 => ?_)
    · skip
      refine W_seq ?_
      refine W_region ?_
      refine L_assign rfl rfl ?_
      refine L_nil ?_
      refine W_ret ?_
      -- return 2 (R4)
      refine res1 rfl (ResOK.tmp rfl) ⟨?_, rfl⟩ (MSub.nil _)
      clear h1 h2
      first
        | (refine congrArg Value.bool (Eq.symm (eqB_false.2 fun e => ?_)); try simp only [dat_pair, dat_int, dat_bool, dat_str, Prod.mk.injEq] at e; simp_all; done)
        | (refine congrArg Value.bool (Eq.symm (eqB_true.2 ?_)); try simp only [dat_pair, dat_int, dat_bool, dat_str, Prod.mk.injEq]; simp_all; done)
    · skip
      refine W_skip ?_
      refine W_seq ?_
      refine W_region ?_
      refine L_assign rfl rfl ?_
      refine L_nil ?_
      refine W_ret ?_
      -- return 3 (R5)
      refine res1 rfl (ResOK.tmp rfl) ⟨?_, rfl⟩ (MSub.nil _)
      clear h1 h2
      first
        | (refine congrArg Value.bool (Eq.symm (eqB_false.2 fun e => ?_)); try simp only [dat_pair, dat_int, dat_bool, dat_str, Prod.mk.injEq] at e; simp_all; done)
        | (refine congrArg Value.bool (Eq.symm (eqB_true.2 ?_)); try simp only [dat_pair, dat_int, dat_bool, dat_str, Prod.mk.injEq]; simp_all; done)

theorem szCSet_spec (w : World) (t1 : T_CSet) (left : Int) (hl : 0 ≤ left) (hm : left ≤ 1048576) (h1 : GT.rd w [] t1) (ho : Ok.ok (GT.dat t1)) : Spec Tryz.prog 41 [.agg (GT.cells t1).toArray, .int .i64 left].toArray w [] (IsV (.int .i64 (if (Bk.bulk t1 : Int) ≤ left then left - (Bk.bulk t1 : Int) else -1))) := by
  obtain ⟨a1, a2⟩ := t1
  have hs0 : a1.size ≤ 9223372036854775807 := ho.1
  change Spec _ _ [Value.agg #[.string a1, a2.hdr], .int .i64 left].toArray w [] _
  refine Spec.intro Tryz.func41 rfl Tryz.ntmps41 rfl ?_
  refine W_seq ?_
  refine W_region ?_
  refine L_box rfl rfl (fun bk2 => ?_)
  refine L_assign rfl rfl ?_
  refine L_nil ?_
  refine W_seq ?_
  refine W_region ?_
  refine L_move rfl rfl ?_
  refine L_fieldAddr rfl rfl fld75_0 ?_
  refine L_load rfl rfl (by first | exact RdC.blk (by repeat (first | exact List.Mem.head _ | apply List.Mem.tail))) one9 rfl ?_
  refine L_lenT rfl rfl str9 ?_
  refine L_binV rfl rfl rfl (bv_subR (by unfold inR; omega)) ?_
  refine L_assign rfl rfl ?_
  refine L_nil ?_
  refine W_seq ?_
  refine W_seq ?_
  refine W_region ?_
  refine L_move rfl rfl ?_
  refine L_binV rfl rfl rfl bv_lss ?_
  refine L_nil ?_
  refine W_weaken (l' := [(1, _), (2, _), (11, _)]) (Sub.cons rfl (Sub.cons rfl (Sub.cons rfl (Sub.nil _)))) (MSub.refl _) ?_
  refine W_cond rfl (fun hc2 => ?_) (fun hc2 => ?_)
  · skip
    have hb0 : left - (a1.size : Int) < 0 := by simpa using hc2
    refine W_seq ?_
    refine W_region ?_
    refine L_assign rfl rfl ?_
    refine L_nil ?_
    refine W_ret ?_
    -- return 1 (R3)
    refine res1 rfl (ResOK.tmp rfl) ⟨?_, rfl⟩ (MSub.nil _)
    try simp only [bulk_pair, bulk_int, bulk_bool, bulk_str, Int.natCast_add, Int.natCast_zero] at *
    all_goals first
      | rfl
      | (rw [if_pos (by omega)] <;> (congr 1 <;> omega))
      | (rw [if_neg (by omega)])
  · skip
    have hb0 : ¬ (left - (a1.size : Int) < 0) := by simpa using hc2
    refine W_skip ?_
    refine W_seq ?_
    refine W_region ?_
    refine L_fieldAddr rfl rfl fld75_1 ?_
    refine L_load rfl rfl (by first | exact RdC.blk (by repeat (first | exact List.Mem.head _ | apply List.Mem.tail))) one73 rfl ?_
    refine L_move rfl rfl ?_
    refine L_callX rfl fn63 rfl (by exact fun w hw => szCSnapS_spec w _ (left - (a1.size : Int)) (by omega) (by omega) (rd_carry (h1.2) hw) ho.2) ?_
    refine L_assign rfl rfl ?_
    refine L_nil ?_
    refine W_seq ?_
    refine W_seq ?_
    refine W_region ?_
    refine L_move rfl rfl ?_
    refine L_binV rfl rfl rfl bv_lss ?_
    refine L_nil ?_
    refine W_weaken (l' := [(1, _), (17, _)]) (Sub.cons rfl (Sub.cons rfl (Sub.nil _))) (MSub.refl _) ?_
    refine W_cond rfl (fun hc5 => ?_) (fun hc5 => ?_)
    · skip
      have hb1 : ¬ ((Bk.bulk a2 : Int) ≤ left - (a1.size : Int)) := by
        intro hn
        rw [if_pos hn] at hc5; simp at hc5; omega
      refine W_seq ?_
      refine W_region ?_
      refine L_assign rfl rfl ?_
      refine L_nil ?_
      refine W_ret ?_
      -- return 2 (R6)
      refine res1 rfl (ResOK.tmp rfl) ⟨?_, rfl⟩ (MSub.nil _)
      try simp only [bulk_pair, bulk_int, bulk_bool, bulk_str, Int.natCast_add, Int.natCast_zero] at *
      all_goals first
        | rfl
        | (rw [if_pos (by omega)] <;> (congr 1 <;> omega))
        | (rw [if_neg (by omega)])
    · skip
      have hb1 : (Bk.bulk a2 : Int) ≤ left - (a1.size : Int) := by
        rcases Int.decLt (left - (a1.size : Int)) (Bk.bulk a2 : Int) with hn | hn
        · omega
        · rw [if_neg (by omega)] at hc5; simp at hc5
      rw [if_pos hb1]
      refine W_skip ?_
      refine W_seq ?_
      refine W_region ?_
      refine L_move rfl rfl ?_
      refine L_assign rfl rfl ?_
      refine L_nil ?_
      refine W_ret ?_
      -- return 3 (R7)
      refine res1 rfl (ResOK.tmp rfl) ⟨?_, rfl⟩ (MSub.nil _)
      try simp only [bulk_pair, bulk_int, bulk_bool, bulk_str, Int.natCast_add, Int.natCast_zero] at *
      all_goals first
        | rfl
        | (rw [if_pos (by omega)] <;> (congr 1 <;> omega))
        | (rw [if_neg (by omega)])

theorem toCSet_spec (w : World) (t1 : T_CSet) (h1 : GT.rd w [] t1) (hb : Bk.bulk t1 ≤ 1048576) : Spec Tryz.prog 50 [.agg (GT.cells t1).toArray].toArray w [] (fun v M => ∃ t2 : T_CSet, v = .agg (GT.cells t2).toArray ∧ GT.dat t2 = GT.dat t1 ∧ M = [treeH t2]) := by
  obtain ⟨a1, a2⟩ := t1
  have hbk_1 : Bk.bulk a2 ≤ 1048576 := by (try simp only [bulk_pair, bulk_int, bulk_bool, bulk_str] at hb ⊢); omega
  change Spec _ _ [Value.agg #[.string a1, a2.hdr]].toArray w [] _
  refine Spec.intro Tryz.func50 rfl Tryz.ntmps50 rfl ?_
  refine W_seq ?_
  refine W_region ?_
  refine L_box rfl rfl (fun bk1 => ?_)
  refine L_alloc rfl zero81 (fun bk2 => ?_)
  refine L_nil ?_
  refine W_seq ?_
  refine W_region ?_
  refine L_alloc rfl zero81 (fun bk3 => ?_)
  refine L_nil ?_
  refine W_seq ?_
  refine W_region ?_
  refine L_fieldAddr rfl rfl fld75_0 ?_
  refine L_load rfl rfl (by first | exact RdC.blk (by repeat (first | exact List.Mem.head _ | apply List.Mem.tail))) one9 rfl ?_
  refine L_fieldAddr rfl rfl fld81_0 ?_
  refine L_store rfl rfl (by repeat (first | exact Pick.here _ | apply Pick.there)) one9 rfl rfl ?_
  refine L_nil ?_
  refine W_seq ?_
  refine W_region ?_
  refine L_fieldAddr rfl rfl fld75_1 ?_
  refine L_load rfl rfl (by first | exact RdC.blk (by repeat (first | exact List.Mem.head _ | apply List.Mem.tail))) one73 rfl ?_
  refine L_callR rfl fn66 rfl (by exact fun w hw => toCSnapS_spec w _ (rd_carry (h1.2) hw) hbk_1) ?_
  rintro v M1 ⟨n2t, hv, hd1, rfl⟩
  subst hv
  simp only [List.cons_append, List.nil_append]
  refine L_fieldAddr rfl rfl fld81_1 ?_
  refine L_store rfl rfl (by repeat (first | exact Pick.here _ | apply Pick.there)) one79 rfl rfl ?_
  refine L_nil ?_
  refine W_seq ?_
  refine W_region ?_
  refine L_loadW rfl rfl (by first | exact RdC.blk (by repeat (first | exact List.Mem.head _ | apply List.Mem.tail))) (by exact agg81) ?_
  refine L_storeW rfl rfl (by repeat (first | exact Pick.here _ | apply Pick.there)) (by exact agg81) (by rfl) (by first | (simp [Value.oneCell', TL.hdr]; done) | (simp [Value.oneCell', TL.hdr, Value.cells]; done) | exact fun v hv => GT.one _ v hv) ?_
  refine L_nil ?_
  refine W_conv (M' := treeH ((a1, n2t) : T_CSet) :: _) (fun w h => (tree_snd (flat_str (h1.1)) (frontPick (by repeat (first | exact Pick.here _ | apply Pick.there)) h))) ?_
  refine W_ret ?_
  -- return 1 (R4)
  refine res1 rfl (ResOK.cell rfl (by repeat (first | exact List.Mem.head _ | apply List.Mem.tail)) (by exact agg81)) ⟨(a1, n2t), rfl, by simp only [dat_pair, hd1], rfl⟩ (MSub.cons (by repeat (first | exact Pick.here _ | apply Pick.there)) (MSub.nil _))

theorem eqCSetS_spec (w : World) (t1 t2 : TL T_CSet) (h1 : GT.rd w [] t1) (h2 : GT.rd w [] t2) : Spec Tryz.prog 36 [t1.hdr, t2.hdr].toArray w [] (IsV (.bool (eqB (GT.dat t1) (GT.dat t2)))) := by
  obtain ⟨a1, c1, e1, x1, y1⟩ := t1
  obtain ⟨a2, c2, e2, x2, y2⟩ := t2
  have hm1 : x1.length ≤ 9223372036854775807 := rd_len h1
  have hm2 : x2.length ≤ 9223372036854775807 := rd_len h2
  dsimp only [TL.hdr]
  refine Spec.intro Tryz.func36 rfl Tryz.ntmps36 rfl ?_
  refine W_seq ?_
  refine W_region ?_
  refine L_assign rfl rfl ?_
  refine L_nil ?_
  refine W_seq ?_
  refine W_seq ?_
  refine W_region ?_
  refine L_move rfl rfl ?_
  refine L_lenS rfl rfl el33 ?_
  refine L_move rfl rfl ?_
  refine L_lenS rfl rfl el33 ?_
  refine L_binV rfl rfl rfl bv_neq ?_
  refine L_nil ?_
  refine W_weaken (l' := [(0, _), (1, _), (10, _)]) (Sub.cons rfl (Sub.cons rfl (Sub.cons rfl (Sub.nil _)))) (MSub.refl _) ?_
  refine W_cond rfl (fun hc1 => ?_) (fun hc1 => ?_)
  · skip
    refine W_seq ?_
    refine W_region ?_
    refine L_assign rfl rfl ?_
    refine L_nil ?_
    refine W_ret ?_
    -- return 1 (R2)
    refine res1 rfl (ResOK.tmp rfl) ⟨?_, rfl⟩ (MSub.nil _)
    refine congrArg Value.bool (Eq.symm (eqB_false.2 fun e => ?_))
    simp at hc1
    exact hc1 (by have := congrArg List.length e; simp [dat_TL] at this; omega)
  · skip
    have hl : x1.length = x2.length := by simp at hc1; omega
    refine W_skip ?_
    refine W_seq ?_
    refine W_seq ?_
    refine W_region ?_
    refine L_assign rfl rfl ?_
    refine L_nil ?_
    refine W_block ?_
    refine W_loopC (σ := Nat) 0 (fun (k : Nat) => [(5, .int .i64 (k : Int))]) (fun (k : Nat) => []) (fun (k : Nat) => k ≤ x1.length ∧ (x1.map GT.dat).take k = (x2.map GT.dat).take k) (fun (k : Nat) => x1.length - k) [(0, _), (1, _)] [] ?_ (Sub.cons rfl (Sub.cons rfl (Sub.cons rfl (Sub.nil _)))) (MSub.nil _) ?_
    · skip
      exact ⟨Nat.zero_le _, rfl⟩
    · skip
      rintro k ⟨hk, ht⟩
      refine W_weaken (l' := [(0, _), (1, _), (5, _)]) (Sub.cons rfl (Sub.cons rfl (Sub.cons rfl (Sub.nil _)))) (M' := []) (MSub.nil _) ?_
      refine W_seq ?_
      refine W_seq ?_
      refine W_region ?_
      refine L_move rfl rfl ?_
      refine L_move rfl rfl ?_
      refine L_lenS rfl rfl el33 ?_
      refine L_binV rfl rfl rfl bv_lss ?_
      refine L_nil ?_
      refine W_weaken (l' := [(0, _), (1, _), (5, _), (14, _)]) (Sub.cons rfl (Sub.cons rfl (Sub.cons rfl (Sub.cons rfl (Sub.nil _))))) (MSub.refl _) ?_
      refine W_cond rfl (fun hc4 => ?_) (fun hc4 => ?_)
      · skip
        have hk1 : k < x1.length := by simpa using hc4
        obtain ⟨g1, o1, rfl⟩ := rd_addr h1 hk1
        obtain ⟨g2, o2, rfl⟩ := rd_addr (k := k) h2 (show k < x2.length by omega)
        obtain ⟨u1, hu1⟩ := getEl hk1
        obtain ⟨u2, hu2⟩ := getEl (show k < x2.length by omega)
        refine W_skip ?_
        refine W_seq ?_
        refine W_block ?_
        refine W_seq ?_
        refine W_D0 [26] mix (by kernel_rfl) rfl ?_
        refine D_move GC.none (OpV.t rfl) ?_
        refine D_move GC.none (OpV.t rfl) ?_
        refine D_indexAddr _ GC.none (OpV.t rfl) (OpV.t rfl) el33 (fun hg => ⟨rfl, by (try dsimp only); omega⟩) ?_
        refine D_loadW GC.none (OpV.t rfl) (fun hg => (by first | exact RdC.blk (by repeat (first | exact List.Mem.head _ | apply List.Mem.tail)) | exact RdC.old (Cells.el h1 rfl hu1) | exact RdC.old (Cells.el h2 rfl hu2))) (by exact agg81) ?_
        refine D_move GC.none (OpV.t rfl) ?_
        refine D_move GC.none (OpV.t rfl) ?_
        refine D_indexAddr _ GC.none (OpV.t rfl) (OpV.t rfl) el33 (fun hg => ⟨rfl, by (try dsimp only); omega⟩) ?_
        refine D_loadW GC.none (OpV.t rfl) (fun hg => (by first | exact RdC.blk (by repeat (first | exact List.Mem.head _ | apply List.Mem.tail)) | exact RdC.old (Cells.el h1 rfl hu1) | exact RdC.old (Cells.el h2 rfl hu2))) (by exact agg81) ?_
        refine D_callX GC.none fn59 (OpVs.cons (OpV.t rfl) (OpVs.cons (OpV.t rfl) (OpVs.nil))) (by exact fun hg w F hF hM => (fun w hw => eqCSet_spec w _ _ (rd_carry (h1.2.2.1 _ (List.mem_of_getElem? hu1)) hw) (rd_carry (h2.2.2.1 _ (List.mem_of_getElem? hu2)) hw)) w hF) ?_
        refine D_not GC.none (OpV.t rfl) ?_
        refine DV_nil ?_
        refine Give_is rfl rfl ?_
        refine Give_drop rfl ?_
        refine Give_drop rfl ?_
        refine Give_drop rfl ?_
        refine Give_drop rfl ?_
        refine Give_drop rfl ?_
        refine Give_drop rfl ?_
        refine Give_drop rfl ?_
        refine Give_drop rfl ?_
        refine Give_drop rfl ?_
        refine Give_nil ?_
        refine W_weaken (l' := [(0, _), (1, _), (5, _), (26, _)]) (Sub.cons rfl (Sub.cons rfl (Sub.cons rfl (Sub.cons rfl (Sub.nil _))))) (MSub.refl _) ?_
        refine W_cond rfl (fun hc6 => ?_) (fun hc6 => ?_)
        · skip
          refine W_seq ?_
          refine W_region ?_
          refine L_assign rfl rfl ?_
          refine L_nil ?_
          refine W_ret ?_
          -- return 2 (R7)
          refine res1 rfl (ResOK.tmp rfl) ⟨?_, rfl⟩ (MSub.nil _)
          refine congrArg Value.bool (Eq.symm (eqB_false.2 fun e => ?_))
          simp at hc6
          replace e : x1.map GT.dat = x2.map GT.dat := e
          have e2 := congrArg (fun l => l[k]?) e
          simp only [List.getElem?_map, hu1, hu2, Option.map_some, Option.some.injEq] at e2
          exact hc6 (by simpa [dat_int, dat_str, dat_bool] using e2)
        · skip
          refine W_skip ?_
          refine W_region ?_
          refine L_move rfl rfl ?_
          refine L_binV rfl rfl rfl (bv_addR (by unfold inR; omega)) ?_
          refine L_assign rfl rfl ?_
          refine L_nil ?_
          refine ⟨k + 1, (Sub.cons rfl (Sub.cons rfl (Sub.cons rfl (Sub.nil _)))), (MSub.nil _), ?_, ?_⟩
          · skip
            exact ⟨by omega, take_succ_eq ht (by rw [List.getElem?_map, hu1]; rfl) (by rw [List.getElem?_map, hu2]; rfl) (by simpa [dat_int, dat_str, dat_bool] using hc6)⟩
          · skip
            (try dsimp only); omega
      · skip
        refine W_exit ?_
        refine W_seq ?_
        refine W_region ?_
        refine L_assign rfl rfl ?_
        refine L_nil ?_
        refine W_ret ?_
        -- return 3 (R8)
        refine res1 rfl (ResOK.tmp rfl) ⟨?_, rfl⟩ (MSub.nil _)
        refine congrArg Value.bool (Eq.symm (eqB_true.2 ?_))
        have hk2 : x1.length ≤ k := by simpa using hc4
        have h3 := ht
        rw [List.take_of_length_le (by simp; omega), List.take_of_length_le (by simp; omega)] at h3
        exact h3

theorem szCSetS_spec (w : World) (t1 : TL T_CSet) (left : Int) (hl : 0 ≤ left) (hm : left ≤ 1048576) (h1 : GT.rd w [] t1) (ho : Ok.ok (GT.dat t1)) : Spec Tryz.prog 20 [t1.hdr, .int .i64 left].toArray w [] (IsV (.int .i64 (if (Bk.bulk t1 : Int) ≤ left then left - (Bk.bulk t1 : Int) else -1))) := by
  obtain ⟨a1, c1, e1, x1, y1⟩ := t1
  have hm1 : x1.length ≤ 9223372036854775807 := rd_len h1
  rw [bulk_TL]
  dsimp only [TL.hdr]
  refine Spec.intro Tryz.func20 rfl Tryz.ntmps20 rfl ?_
  refine W_seq ?_
  refine W_region ?_
  refine L_assign rfl rfl ?_
  refine L_nil ?_
  refine W_seq ?_
  refine W_region ?_
  refine L_move rfl rfl ?_
  refine L_move rfl rfl ?_
  refine L_lenS rfl rfl el22 ?_
  refine L_binV rfl rfl rfl (bv_subR (by unfold inR; omega)) ?_
  refine L_assign rfl rfl ?_
  refine L_nil ?_
  refine W_seq ?_
  refine W_seq ?_
  refine W_region ?_
  refine L_move rfl rfl ?_
  refine L_binV rfl rfl rfl bv_lss ?_
  refine L_nil ?_
  refine W_weaken (l' := [(0, _), (1, _), (11, _)]) (Sub.cons rfl (Sub.cons rfl (Sub.cons rfl (Sub.nil _)))) (MSub.refl _) ?_
  refine W_cond rfl (fun hc2 => ?_) (fun hc2 => ?_)
  · skip
    have hb0 : left - (x1.length : Int) < 0 := by simpa using hc2
    refine W_seq ?_
    refine W_region ?_
    refine L_assign rfl rfl ?_
    refine L_nil ?_
    refine W_ret ?_
    -- return 1 (R3)
    refine res1 rfl (ResOK.tmp rfl) ⟨?_, rfl⟩ (MSub.nil _)
    first
      | (rw [if_neg (by simp only [Int.natCast_add]; omega)]; done)
      | (rw [if_neg (by have := bulks_take_le x1 (k + 1); simp only [Int.natCast_add]; omega)]; done)
      | (have hk2 : x1.length ≤ k := by simpa using hc5
         rw [List.take_of_length_le hk2] at ht ⊢
         rw [if_pos (by simp only [Int.natCast_add]; omega)]; congr 1; simp only [Int.natCast_add]; omega)
  · skip
    have hb0 : ¬ (left - (x1.length : Int) < 0) := by simpa using hc2
    refine W_skip ?_
    refine W_seq ?_
    refine W_seq ?_
    refine W_region ?_
    refine L_assign rfl rfl ?_
    refine L_nil ?_
    refine W_block ?_
    have h0 : left - (x1.length : Int) = left - (x1.length : Int) - (bulks (x1.take 0) : Int) := by simp [bulks]
    rw [h0]
    refine W_loopC (σ := Nat) 0 (fun (k : Nat) => [(1, .int .i64 (left - (x1.length : Int) - (bulks (x1.take k) : Int))), (5, .int .i64 (k : Int))]) (fun (k : Nat) => []) (fun (k : Nat) => k ≤ x1.length ∧ 0 ≤ (left - (x1.length : Int) - (bulks (x1.take k) : Int))) (fun (k : Nat) => x1.length - k) [(0, _)] [] ?_ (Sub.cons rfl (Sub.cons rfl (Sub.cons rfl (Sub.nil _)))) (MSub.nil _) ?_
    · skip
      exact ⟨Nat.zero_le _, by simp [bulks]; omega⟩
    · skip
      rintro k ⟨hk, ht⟩
      refine W_weaken (l' := [(0, _), (1, _), (5, _)]) (Sub.cons rfl (Sub.cons rfl (Sub.cons rfl (Sub.nil _)))) (M' := []) (MSub.nil _) ?_
      refine W_seq ?_
      refine W_seq ?_
      refine W_region ?_
      refine L_move rfl rfl ?_
      refine L_move rfl rfl ?_
      refine L_lenS rfl rfl el22 ?_
      refine L_binV rfl rfl rfl bv_lss ?_
      refine L_nil ?_
      refine W_weaken (l' := [(0, _), (1, _), (5, _), (15, _)]) (Sub.cons rfl (Sub.cons rfl (Sub.cons rfl (Sub.cons rfl (Sub.nil _))))) (MSub.refl _) ?_
      refine W_cond rfl (fun hc5 => ?_) (fun hc5 => ?_)
      · skip
        have hk1 : k < x1.length := by simpa using hc5
        obtain ⟨g1, o1, rfl⟩ := rd_addr h1 hk1
        obtain ⟨u1, hu1⟩ := getEl hk1
        have hbs := bulks_take_succ hu1
        have hble := bulks_take_le x1 (k + 1)
        refine W_skip ?_
        refine W_seq ?_
        refine W_block ?_
        refine W_seq ?_
        refine W_region ?_
        refine L_move rfl rfl ?_
        refine L_move rfl rfl ?_
        refine L_indexAddr rfl rfl rfl el22 rfl (by omega) ?_
        refine L_loadW rfl rfl (by first | exact RdC.blk (by repeat (first | exact List.Mem.head _ | apply List.Mem.tail)) | exact RdC.old (Cells.el h1 rfl hu1)) (by exact agg75) ?_
        refine L_move rfl rfl ?_
        refine L_callX rfl fn41 rfl (by exact fun w hw => szCSet_spec w _ _ (by omega) (by omega) (rd_carry (h1.2.2.1 _ (List.mem_of_getElem? hu1)) hw) (ho.2 _ (List.mem_map.2 ⟨u1, List.mem_of_getElem? hu1, rfl⟩))) ?_
        refine L_assign rfl rfl ?_
        refine L_nil ?_
        refine W_seq ?_
        refine W_region ?_
        refine L_move rfl rfl ?_
        refine L_binV rfl rfl rfl bv_lss ?_
        refine L_nil ?_
        refine W_weaken (l' := [(0, _), (1, _), (5, _), (25, _)]) (Sub.cons rfl (Sub.cons rfl (Sub.cons rfl (Sub.cons rfl (Sub.nil _))))) (MSub.refl _) ?_
        refine W_cond rfl (fun hc8 => ?_) (fun hc8 => ?_)
        · skip
          have hb1 : ¬ ((Bk.bulk u1 : Int) ≤ (left - (x1.length : Int) - (bulks (x1.take k) : Int))) := by
            intro hn
            rw [if_pos hn] at hc8; simp at hc8; omega
          refine W_seq ?_
          refine W_region ?_
          refine L_assign rfl rfl ?_
          refine L_nil ?_
          refine W_ret ?_
          -- return 2 (R9)
          refine res1 rfl (ResOK.tmp rfl) ⟨?_, rfl⟩ (MSub.nil _)
          first
            | (rw [if_neg (by simp only [Int.natCast_add]; omega)]; done)
            | (rw [if_neg (by have := bulks_take_le x1 (k + 1); simp only [Int.natCast_add]; omega)]; done)
            | (have hk2 : x1.length ≤ k := by simpa using hc5
               rw [List.take_of_length_le hk2] at ht ⊢
               rw [if_pos (by simp only [Int.natCast_add]; omega)]; congr 1; simp only [Int.natCast_add]; omega)
        · skip
          have hb1 : (Bk.bulk u1 : Int) ≤ (left - (x1.length : Int) - (bulks (x1.take k) : Int)) := by
            rcases Int.decLt (left - (x1.length : Int) - (bulks (x1.take k) : Int)) (Bk.bulk u1 : Int) with hn | hn
            · omega
            · rw [if_neg (by omega)] at hc8; simp at hc8
          rw [if_pos hb1]
          have hnx : (left - (x1.length : Int) - (bulks (x1.take k) : Int)) - (Bk.bulk u1 : Int) = left - (x1.length : Int) - (bulks (x1.take (k + 1)) : Int) := by rw [hbs]; omega
          rw [hnx]
          refine W_skip ?_
          refine W_region ?_
          refine L_move rfl rfl ?_
          refine L_binV rfl rfl rfl (bv_addR (by unfold inR; omega)) ?_
          refine L_assign rfl rfl ?_
          refine L_nil ?_
          refine ⟨k + 1, (Sub.cons rfl (Sub.cons rfl (Sub.cons rfl (Sub.nil _)))), (MSub.nil _), ?_, ?_⟩
          · skip
            exact ⟨by omega, by omega⟩
          · skip
            (try dsimp only); omega
      · skip
        refine W_exit ?_
        refine W_seq ?_
        refine W_region ?_
        refine L_move rfl rfl ?_
        refine L_assign rfl rfl ?_
        refine L_nil ?_
        refine W_ret ?_
        -- return 3 (R10)
        refine res1 rfl (ResOK.tmp rfl) ⟨?_, rfl⟩ (MSub.nil _)
        first
          | (rw [if_neg (by simp only [Int.natCast_add]; omega)]; done)
          | (rw [if_neg (by have := bulks_take_le x1 (k + 1); simp only [Int.natCast_add]; omega)]; done)
          | (have hk2 : x1.length ≤ k := by simpa using hc5
             rw [List.take_of_length_le hk2] at ht ⊢
             rw [if_pos (by simp only [Int.natCast_add]; omega)]; congr 1; simp only [Int.natCast_add]; omega)

theorem toCSetS_spec (w : World) (t1 : TL T_CSet) (h1 : GT.rd w [] t1) (hb : Bk.bulk t1 ≤ 1048576) : Spec Tryz.prog 27 [t1.hdr].toArray w [] (fun v M => ∃ t2 : TL T_CSet, v = t2.hdr ∧ GT.dat t2 = GT.dat t1 ∧ M = [treeH t2]) := by
  obtain ⟨a1, c1, e1, x1, y1⟩ := t1
  rw [bulk_TL] at hb
  dsimp only [TL.hdr]
  refine Spec.intro Tryz.func27 rfl Tryz.ntmps27 rfl ?_
  refine W_seq ?_
  refine W_region ?_
  refine L_assign rfl rfl ?_
  refine L_nil ?_
  refine W_seq ?_
  refine W_region ?_
  refine L_move rfl rfl ?_
  refine L_lenS rfl rfl el22 ?_
  refine L_make (τ := T_CSet) (ByteArray.empty, (TL.nil T_CSnap 0)) rfl rfl rfl el33 rfl rfl (flat_pair (flat_str trivial) (flat_nil 0)) (by omega) (by unfold maxLen; omega) (fun g => ?_)
  refine L_assign rfl rfl ?_
  refine L_nil ?_
  refine W_seq ?_
  refine W_seq ?_
  refine W_region ?_
  refine L_assign rfl rfl ?_
  refine L_nil ?_
  refine W_block ?_
  refine W_loopC (σ := Nat × List T_CSet) (0, List.replicate x1.length (ByteArray.empty, (TL.nil T_CSnap 0))) (fun (p : Nat × List T_CSet) => [(4, .int .i64 (p.1 : Int))]) (fun (p : Nat × List T_CSet) => [treeH (⟨some ⟨g, 0, none⟩, x1.length, 81, p.2, []⟩ : TL T_CSet)]) (fun (p : Nat × List T_CSet) => p.1 ≤ x1.length ∧ p.2.length = x1.length ∧ (p.2.take p.1).map GT.dat = (x1.take p.1).map GT.dat) (fun (p : Nat × List T_CSet) => x1.length - p.1) [(0, _), (3, _)] [] ?_ (Sub.cons rfl (Sub.cons rfl (Sub.cons rfl (Sub.nil _)))) (MSub.cons (by repeat (first | exact Pick.here _ | apply Pick.there)) (MSub.nil _)) ?_
  · skip
    exact ⟨Nat.zero_le _, by simp, by simp⟩
  · skip
    rintro ⟨k, cur⟩ ⟨hk, hlen, hdat⟩
    dsimp only at hk hlen hdat
    refine W_weaken (l' := [(0, _), (3, _), (4, _)]) (Sub.cons rfl (Sub.cons rfl (Sub.cons rfl (Sub.nil _)))) (M' := [_]) (MSub.cons (by repeat (first | exact Pick.here _ | apply Pick.there)) (MSub.nil _)) ?_
    refine W_seq ?_
    refine W_seq ?_
    refine W_region ?_
    refine L_move rfl rfl ?_
    refine L_move rfl rfl ?_
    refine L_lenS rfl rfl el22 ?_
    refine L_binV rfl rfl rfl bv_lss ?_
    refine L_nil ?_
    refine W_weaken (l' := [(0, _), (3, _), (4, _), (11, _)]) (Sub.cons rfl (Sub.cons rfl (Sub.cons rfl (Sub.cons rfl (Sub.nil _))))) (MSub.refl _) ?_
    refine W_cond rfl (fun hc3 => ?_) (fun hc3 => ?_)
    · skip
      have hk1 : k < x1.length := by simpa using hc3
      obtain ⟨g1, o1, rfl⟩ := rd_addr h1 hk1
      obtain ⟨u1, hu1⟩ := getEl hk1
      have hub : Bk.bulk u1 ≤ 1048576 := by have := bulk_mem (List.mem_of_getElem? hu1); omega
      refine W_skip ?_
      refine W_seq ?_
      refine W_block ?_
      refine W_region ?_
      refine L_move rfl rfl ?_
      refine L_move rfl rfl ?_
      refine L_move rfl rfl ?_
      refine L_move rfl rfl ?_
      refine L_indexAddr rfl rfl rfl el22 rfl (by omega) ?_
      refine L_loadW rfl rfl (by first | exact RdC.blk (by repeat (first | exact List.Mem.head _ | apply List.Mem.tail)) | exact RdC.old (Cells.el h1 rfl hu1)) (by exact agg75) ?_
      refine L_callR rfl fn50 rfl (by exact fun w hw => toCSet_spec w _ (rd_carry (h1.2.2.1 _ (List.mem_of_getElem? hu1)) hw) hub) ?_
      rintro v M1 ⟨u2, hv, hd, rfl⟩
      subst hv
      simp only [List.cons_append, List.nil_append]
      refine L_indexAddr rfl rfl rfl el33 rfl (by omega) ?_
      obtain ⟨u0, hu0⟩ := getEl (show k < cur.length by omega)
      refine L_storeEl u2 rfl rfl (by repeat (first | exact Pick.here _ | apply Pick.there)) rfl hu0 rfl (by repeat (first | exact Pick.here _ | apply Pick.there)) (.inl agg81) ?_
      refine L_nil ?_
      refine W_region ?_
      refine L_move rfl rfl ?_
      refine L_binV rfl rfl rfl (bv_addR (by unfold inR; omega)) ?_
      refine L_assign rfl rfl ?_
      refine L_nil ?_
      refine ⟨(k + 1, cur.set k u2), (Sub.cons rfl (Sub.cons rfl (Sub.cons rfl (Sub.nil _)))), (MSub.cons (by repeat (first | exact Pick.here _ | apply Pick.there)) (MSub.nil _)), ?_, ?_⟩
      · skip
        exact ⟨by dsimp only; omega, by simpa using hlen, map_take_set GT.dat GT.dat hdat (by omega) hu1 hd⟩
      · skip
        dsimp only; omega
    · skip
      refine W_exit ?_
      refine W_seq ?_
      refine W_region ?_
      refine L_move rfl rfl ?_
      refine L_assign rfl rfl ?_
      refine L_nil ?_
      refine W_ret ?_
      -- return 1 (R6)
      refine res1 rfl (ResOK.tmp rfl) ⟨⟨some ⟨g, 0, none⟩, x1.length, 81, cur, []⟩, ?_, ?_, rfl⟩ (MSub.cons (by repeat (first | exact Pick.here _ | apply Pick.there)) (MSub.nil _))
      · show _ = Value.slice _ cur.length _
        rw [hlen]
      · have hk2 : x1.length ≤ k := by simpa using hc3
        rw [List.take_of_length_le (by omega), List.take_of_length_le (by omega)] at hdat
        exact hdat

theorem eqCatalog_spec (w : World) (t1 t2 : T_Catalog) (h1 : GT.rd w [] t1) (h2 : GT.rd w [] t2) : Spec Tryz.prog 12 [.agg (GT.cells t1).toArray, .agg (GT.cells t2).toArray].toArray w [] (IsV (.bool (eqB (GT.dat t1) (GT.dat t2)))) := by
  generalize t1 = a1 at *
  generalize t2 = b1 at *
  change Spec _ _ [Value.agg #[a1.hdr], Value.agg #[b1.hdr]].toArray w [] _
  refine Spec.intro Tryz.func12 rfl Tryz.ntmps12 rfl ?_
  refine W_seq ?_
  refine W_region ?_
  refine L_box rfl rfl (fun bk2 => ?_)
  refine L_box rfl rfl (fun bk3 => ?_)
  refine L_assign rfl rfl ?_
  refine L_nil ?_
  refine W_seq ?_
  refine W_seq ?_
  refine W_region ?_
  refine L_fieldAddr rfl rfl fld35_0 ?_
  refine L_load rfl rfl (by first | exact RdC.blk (by repeat (first | exact List.Mem.head _ | apply List.Mem.tail))) one33 rfl ?_
  refine L_fieldAddr rfl rfl fld35_0 ?_
  refine L_load rfl rfl (by first | exact RdC.blk (by repeat (first | exact List.Mem.head _ | apply List.Mem.tail))) one33 rfl ?_
  refine L_callX rfl fn36 rfl (by exact fun w hw => eqCSetS_spec w _ _ (rd_carry (h1) hw) (rd_carry (h2) hw)) ?_
  refine L_not rfl rfl ?_
  refine L_nil ?_
  refine W_weaken (l' := [(10, _)]) (Sub.cons rfl (Sub.nil _)) (MSub.refl _) ?_
  refine W_cond rfl (fun hc1 => ?_) (fun hc1 => ?_)
  · skip
    refine W_seq ?_
    refine W_region ?_
    refine L_assign rfl rfl ?_
    refine L_nil ?_
    refine W_ret ?_
    -- return 1 (R2)
    refine res1 rfl (ResOK.tmp rfl) ⟨?_, rfl⟩ (MSub.nil _)
    clear h1 h2
    first
      | (simp_all; done)
      | (refine congrArg Value.bool (Eq.symm (eqB_false.2 fun e => ?_)); try simp only [dat_pair, dat_int, dat_bool, dat_str, Prod.mk.injEq] at e; simp_all; done)
      | (refine congrArg Value.bool (Eq.symm (eqB_true.2 ?_)); try simp only [dat_pair, dat_int, dat_bool, dat_str, Prod.mk.injEq]; simp_all; done)
  · skip
    refine W_skip ?_
    refine W_seq ?_
    refine W_region ?_
    refine L_assign rfl rfl ?_
    refine L_nil ?_
    refine W_ret ?_
    -- return 2 (R3)
    refine res1 rfl (ResOK.tmp rfl) ⟨?_, rfl⟩ (MSub.nil _)
    clear h1 h2
    first
      | (simp_all; done)
      | (refine congrArg Value.bool (Eq.symm (eqB_false.2 fun e => ?_)); try simp only [dat_pair, dat_int, dat_bool, dat_str, Prod.mk.injEq] at e; simp_all; done)
      | (refine congrArg Value.bool (Eq.symm (eqB_true.2 ?_)); try simp only [dat_pair, dat_int, dat_bool, dat_str, Prod.mk.injEq]; simp_all; done)

theorem szCatalog_spec (w : World) (t1 : T_Catalog) (left : Int) (hl : 0 ≤ left) (hm : left ≤ 1048576) (h1 : GT.rd w [] t1) (ho : Ok.ok (GT.dat t1)) : Spec Tryz.prog 4 [.agg (GT.cells t1).toArray, .int .i64 left].toArray w [] (IsV (.int .i64 (if (Bk.bulk t1 : Int) ≤ left then left - (Bk.bulk t1 : Int) else -1))) := by
  generalize t1 = a1 at *
  change Spec _ _ [Value.agg #[a1.hdr], .int .i64 left].toArray w [] _
  refine Spec.intro Tryz.func4 rfl Tryz.ntmps4 rfl ?_
  refine W_seq ?_
  refine W_region ?_
  refine L_box rfl rfl (fun bk2 => ?_)
  refine L_assign rfl rfl ?_
  refine L_nil ?_
  refine W_seq ?_
  refine W_region ?_
  refine L_fieldAddr rfl rfl fld24_0 ?_
  refine L_load rfl rfl (by first | exact RdC.blk (by repeat (first | exact List.Mem.head _ | apply List.Mem.tail))) one22 rfl ?_
  refine L_move rfl rfl ?_
  refine L_callX rfl fn20 rfl (by exact fun w hw => szCSetS_spec w _ (left) (by omega) (by omega) (rd_carry (h1) hw) ho) ?_
  refine L_assign rfl rfl ?_
  refine L_nil ?_
  refine W_seq ?_
  refine W_seq ?_
  refine W_region ?_
  refine L_move rfl rfl ?_
  refine L_binV rfl rfl rfl bv_lss ?_
  refine L_nil ?_
  refine W_weaken (l' := [(1, _), (10, _)]) (Sub.cons rfl (Sub.cons rfl (Sub.nil _))) (MSub.refl _) ?_
  refine W_cond rfl (fun hc2 => ?_) (fun hc2 => ?_)
  · skip
    have hb0 : ¬ ((Bk.bulk a1 : Int) ≤ left) := by
      intro hn
      rw [if_pos hn] at hc2; simp at hc2; omega
    refine W_seq ?_
    refine W_region ?_
    refine L_assign rfl rfl ?_
    refine L_nil ?_
    refine W_ret ?_
    -- return 1 (R3)
    refine res1 rfl (ResOK.tmp rfl) ⟨?_, rfl⟩ (MSub.nil _)
    try simp only [bulk_pair, bulk_int, bulk_bool, bulk_str, Int.natCast_add, Int.natCast_zero] at *
    all_goals first
      | rfl
      | (rw [if_pos (by omega)] <;> (congr 1 <;> omega))
      | (rw [if_neg (by omega)])
  · skip
    have hb0 : (Bk.bulk a1 : Int) ≤ left := by
      rcases Int.decLt (left) (Bk.bulk a1 : Int) with hn | hn
      · omega
      · rw [if_neg (by omega)] at hc2; simp at hc2
    rw [if_pos hb0]
    refine W_skip ?_
    refine W_seq ?_
    refine W_region ?_
    refine L_move rfl rfl ?_
    refine L_assign rfl rfl ?_
    refine L_nil ?_
    refine W_ret ?_
    -- return 2 (R4)
    refine res1 rfl (ResOK.tmp rfl) ⟨?_, rfl⟩ (MSub.nil _)
    try simp only [bulk_pair, bulk_int, bulk_bool, bulk_str, Int.natCast_add, Int.natCast_zero] at *
    all_goals first
      | rfl
      | (rw [if_pos (by omega)] <;> (congr 1 <;> omega))
      | (rw [if_neg (by omega)])

theorem toCatalog_spec (w : World) (t1 : T_Catalog) (h1 : GT.rd w [] t1) (hb : Bk.bulk t1 ≤ 1048576) : Spec Tryz.prog 7 [.agg (GT.cells t1).toArray].toArray w [] (fun v M => ∃ t2 : T_Catalog, v = .agg (GT.cells t2).toArray ∧ GT.dat t2 = GT.dat t1 ∧ M = [treeH t2]) := by
  generalize t1 = a1 at *
  have hbk_0 : Bk.bulk a1 ≤ 1048576 := by (try simp only [bulk_pair, bulk_int, bulk_bool, bulk_str] at hb ⊢); omega
  change Spec _ _ [Value.agg #[a1.hdr]].toArray w [] _
  refine Spec.intro Tryz.func7 rfl Tryz.ntmps7 rfl ?_
  refine W_seq ?_
  refine W_region ?_
  refine L_box rfl rfl (fun bk1 => ?_)
  refine L_alloc rfl zero35 (fun bk2 => ?_)
  refine L_nil ?_
  refine W_seq ?_
  refine W_region ?_
  refine L_alloc rfl zero35 (fun bk3 => ?_)
  refine L_nil ?_
  refine W_seq ?_
  refine W_region ?_
  refine L_fieldAddr rfl rfl fld24_0 ?_
  refine L_load rfl rfl (by first | exact RdC.blk (by repeat (first | exact List.Mem.head _ | apply List.Mem.tail))) one22 rfl ?_
  refine L_callR rfl fn27 rfl (by exact fun w hw => toCSetS_spec w _ (rd_carry (h1) hw) hbk_0) ?_
  rintro v M1 ⟨n1t, hv, hd0, rfl⟩
  subst hv
  simp only [List.cons_append, List.nil_append]
  refine L_fieldAddr rfl rfl fld35_0 ?_
  refine L_store rfl rfl (by repeat (first | exact Pick.here _ | apply Pick.there)) one33 rfl rfl ?_
  refine L_nil ?_
  refine W_seq ?_
  refine W_region ?_
  refine L_loadW rfl rfl (by first | exact RdC.blk (by repeat (first | exact List.Mem.head _ | apply List.Mem.tail))) (by exact agg35) ?_
  refine L_storeW rfl rfl (by repeat (first | exact Pick.here _ | apply Pick.there)) (by exact agg35) (by rfl) (by first | (simp [Value.oneCell', TL.hdr]; done) | (simp [Value.oneCell', TL.hdr, Value.cells]; done) | exact fun v hv => GT.one _ v hv) ?_
  refine L_nil ?_
  refine W_conv (M' := treeH ((n1t) : T_Catalog) :: _) (fun w h => (frontPick (by repeat (first | exact Pick.here _ | apply Pick.there)) h)) ?_
  refine W_ret ?_
  -- return 1 (R3)
  refine res1 rfl (ResOK.cell rfl (by repeat (first | exact List.Mem.head _ | apply List.Mem.tail)) (by exact agg35)) ⟨(n1t), rfl, by simp only [dat_pair, hd0], rfl⟩ (MSub.cons (by repeat (first | exact Pick.here _ | apply Pick.there)) (MSub.nil _))

theorem markStringS_spec (w : World) (t1 : TL ByteArray) (k0 : Nat) (hk0 : 0 < k0) (hb : k0 + Mk.cnt t1 < 9223372036854775807) : Spec Tryz.prog 77 [t1.hdr, .int .i64 (k0 : Int)].toArray w [treeH t1] (fun v M => v = .int .i64 ((k0 + Mk.cnt t1 : Nat) : Int) ∧ M = [treeH (Mk.mkd k0 t1)]) := by
  obtain ⟨a1, c1, e1, x1, y1⟩ := t1
  replace hb : k0 + cnts x1 < 9223372036854775807 := hb
  dsimp only [TL.hdr]
  refine Spec.intro Tryz.func77 rfl Tryz.ntmps77 rfl ?_
  refine W_fact (fun w h => ow_facts (h.prs _ (List.mem_cons_self ..))) fun hF => ?_
  replace hF : x1.length ≤ 9223372036854775807 ∧ (0 < x1.length → ∃ g, a1 = some ⟨g, 0, none⟩) := hF
  refine W_seq ?_
  refine W_region ?_
  refine L_assign rfl rfl ?_
  refine L_nil ?_
  refine W_seq ?_
  refine W_seq ?_
  refine W_region ?_
  refine L_assign rfl rfl ?_
  refine L_nil ?_
  refine W_block ?_
  refine W_conv (M' := [treeH (⟨a1, c1, e1, half k0 0 x1, y1⟩ : TL ByteArray)]) (fun w h => by rw [half_zero]; exact h) ?_
  refine W_loopC (σ := Nat) 0 (fun (i : Nat) => [(1, .int .i64 ((k0 + cnts (x1.take i) : Nat) : Int)), (5, .int .i64 (i : Int))]) (fun (i : Nat) => [treeH (⟨a1, c1, e1, half k0 i x1, y1⟩ : TL ByteArray)]) (fun (i : Nat) => i ≤ x1.length) (fun (i : Nat) => x1.length - i) [(0, _)] [] ?_ (Sub.cons rfl (Sub.cons rfl (Sub.cons rfl (Sub.nil _)))) (MSub.cons (by repeat (first | exact Pick.here _ | apply Pick.there)) (MSub.nil _)) ?_
  · skip
    exact Nat.zero_le _
  · skip
    rintro i hi
    refine W_weaken (l' := [(0, _), (1, _), (5, _)]) (Sub.cons rfl (Sub.cons rfl (Sub.cons rfl (Sub.nil _)))) (M' := [_]) (MSub.cons (by repeat (first | exact Pick.here _ | apply Pick.there)) (MSub.nil _)) ?_
    refine W_seq ?_
    refine W_seq ?_
    refine W_region ?_
    refine L_move rfl rfl ?_
    refine L_move rfl rfl ?_
    refine L_lenS rfl rfl el55 ?_
    refine L_binV rfl rfl rfl bv_lss ?_
    refine L_nil ?_
    refine W_weaken (l' := [(0, _), (1, _), (5, _), (9, _)]) (Sub.cons rfl (Sub.cons rfl (Sub.cons rfl (Sub.cons rfl (Sub.nil _))))) (MSub.refl _) ?_
    refine W_cond rfl (fun hc2 => ?_) (fun hc2 => ?_)
    · skip
      have hk1 : i < x1.length := by simpa using hc2
      obtain ⟨g, rfl⟩ := hF.2 (by omega)
      obtain ⟨u, hu⟩ := getEl hk1
      have hs := cnts_take_succ hu
      have hle := cnts_take_le x1 (i + 1)
      have hlh := half_length k0 i x1
      try simp only [cnt_int, cnt_str] at hs
      refine W_skip ?_
      refine W_seq ?_
      refine W_block ?_
      refine W_seq ?_
      refine W_region ?_
      refine L_move rfl rfl ?_
      refine L_move rfl rfl ?_
      refine L_move rfl rfl ?_
      refine L_callX rfl fn40 rfl (by exact fun w hw => markText_spec w (k0 + cnts (x1.take i)) (by omega) (by omega)) ?_
      refine L_indexAddr rfl rfl rfl el55 rfl (by omega) ?_
      refine L_storeElV (mtx (k0 + cnts (x1.take i))) rfl rfl (by repeat (first | exact Pick.here _ | apply Pick.there)) rfl (show ((half k0 i x1) : List ByteArray)[i]? = some (u : ByteArray) from half_get (k := k0) hu) rfl (flat_str trivial) (.inr ⟨one9, rfl⟩) ?_
      refine L_nil ?_
      refine W_region ?_
      refine L_move rfl rfl ?_
      refine L_binV rfl rfl rfl (bv_addR (by unfold inR; omega)) ?_
      refine L_assign rfl rfl ?_
      refine L_nil ?_
      rw [show (((k0 + cnts (x1.take i)) : Nat) : Int) + 1 = (((k0 + cnts (x1.take i)) + 1 : Nat) : Int) from rfl]
      have hfin : ((half k0 i x1).set i (mtx (k0 + cnts (x1.take i)))) = half k0 (i + 1) x1 := by
        have h9 := half_set (k := k0) hu
        try simp only [mk_pair, mk_int, mk_str, cnt_pair, cnt_int, cnt_str, ← Nat.add_assoc] at h9
        try simp only [List.set_set]
        exact h9
      refine W_conv (M' := treeH (⟨some ⟨g, 0, none⟩, c1, e1, (half k0 (i + 1) x1), y1⟩ : TL ByteArray) :: _) (fun w h => by rw [← hfin]; exact h) ?_
      have hE : ((k0 + cnts (x1.take i)) + 1) = k0 + cnts (x1.take (i + 1)) := by rw [hs]; (try simp only [cnt_pair, cnt_int, cnt_str]); omega
      rw [hE]
      refine W_region ?_
      refine L_move rfl rfl ?_
      refine L_binV rfl rfl rfl (bv_addR (by unfold inR; omega)) ?_
      refine L_assign rfl rfl ?_
      refine L_nil ?_
      refine ⟨i + 1, (Sub.cons rfl (Sub.cons rfl (Sub.cons rfl (Sub.nil _)))), (MSub.cons (by repeat (first | exact Pick.here _ | apply Pick.there)) (MSub.nil _)), ?_, ?_⟩
      · skip
        show i + 1 ≤ x1.length
        omega
      · skip
        show x1.length - (i + 1) < x1.length - i
        omega
    · skip
      refine W_exit ?_
      refine W_seq ?_
      refine W_region ?_
      refine L_move rfl rfl ?_
      refine L_assign rfl rfl ?_
      refine L_nil ?_
      refine W_ret ?_
      -- return 1 (R6)
      have hk2 : x1.length ≤ i := by simpa using hc2
      rw [half_all k0 hk2]
      refine res1 rfl (ResOK.tmp rfl) ⟨?_, rfl⟩ (MSub.cons (by repeat (first | exact Pick.here _ | apply Pick.there)) (MSub.nil _))
      have hk2 : x1.length ≤ i := by simpa using hc2
      rw [List.take_of_length_le hk2]; rfl

theorem markCSnapS_spec (w : World) (t1 : TL T_CSnap) (k0 : Nat) (hk0 : 0 < k0) (hb : k0 + Mk.cnt t1 < 9223372036854775807) : Spec Tryz.prog 61 [t1.hdr, .int .i64 (k0 : Int)].toArray w [treeH t1] (fun v M => v = .int .i64 ((k0 + Mk.cnt t1 : Nat) : Int) ∧ M = [treeH (Mk.mkd k0 t1)]) := by
  obtain ⟨a1, c1, e1, x1, y1⟩ := t1
  replace hb : k0 + cnts x1 < 9223372036854775807 := hb
  dsimp only [TL.hdr]
  refine Spec.intro Tryz.func61 rfl Tryz.ntmps61 rfl ?_
  refine W_fact (fun w h => ow_facts (h.prs _ (List.mem_cons_self ..))) fun hF => ?_
  replace hF : x1.length ≤ 9223372036854775807 ∧ (0 < x1.length → ∃ g, a1 = some ⟨g, 0, none⟩) := hF
  refine W_seq ?_
  refine W_region ?_
  refine L_assign rfl rfl ?_
  refine L_nil ?_
  refine W_seq ?_
  refine W_seq ?_
  refine W_region ?_
  refine L_assign rfl rfl ?_
  refine L_nil ?_
  refine W_block ?_
  refine W_conv (M' := [treeH (⟨a1, c1, e1, half k0 0 x1, y1⟩ : TL T_CSnap)]) (fun w h => by rw [half_zero]; exact h) ?_
  refine W_loopC (σ := Nat) 0 (fun (i : Nat) => [(1, .int .i64 ((k0 + cnts (x1.take i) : Nat) : Int)), (5, .int .i64 (i : Int))]) (fun (i : Nat) => [treeH (⟨a1, c1, e1, half k0 i x1, y1⟩ : TL T_CSnap)]) (fun (i : Nat) => i ≤ x1.length) (fun (i : Nat) => x1.length - i) [(0, _)] [] ?_ (Sub.cons rfl (Sub.cons rfl (Sub.cons rfl (Sub.nil _)))) (MSub.cons (by repeat (first | exact Pick.here _ | apply Pick.there)) (MSub.nil _)) ?_
  · skip
    exact Nat.zero_le _
  · skip
    rintro i hi
    refine W_weaken (l' := [(0, _), (1, _), (5, _)]) (Sub.cons rfl (Sub.cons rfl (Sub.cons rfl (Sub.nil _)))) (M' := [_]) (MSub.cons (by repeat (first | exact Pick.here _ | apply Pick.there)) (MSub.nil _)) ?_
    refine W_seq ?_
    refine W_seq ?_
    refine W_region ?_
    refine L_move rfl rfl ?_
    refine L_move rfl rfl ?_
    refine L_lenS rfl rfl el79 ?_
    refine L_binV rfl rfl rfl bv_lss ?_
    refine L_nil ?_
    refine W_weaken (l' := [(0, _), (1, _), (5, _), (9, _)]) (Sub.cons rfl (Sub.cons rfl (Sub.cons rfl (Sub.cons rfl (Sub.nil _))))) (MSub.refl _) ?_
    refine W_cond rfl (fun hc2 => ?_) (fun hc2 => ?_)
    · skip
      have hk1 : i < x1.length := by simpa using hc2
      obtain ⟨g, rfl⟩ := hF.2 (by omega)
      obtain ⟨u, hu⟩ := getEl hk1
      have hs := cnts_take_succ hu
      have hle := cnts_take_le x1 (i + 1)
      have hlh := half_length k0 i x1
      obtain ⟨b1, b2, b3⟩ := u
      simp only [cnt_pair, cnt_int, cnt_str] at hs
      refine W_skip ?_
      refine W_seq ?_
      refine W_block ?_
      refine W_seq ?_
      refine W_region ?_
      refine L_move rfl rfl ?_
      refine L_move rfl rfl ?_
      refine L_move rfl rfl ?_
      refine L_callX rfl fn40 rfl (by exact fun w hw => markText_spec w (k0 + cnts (x1.take i)) (by omega) (by omega)) ?_
      refine L_indexAddr rfl rfl rfl el79 rfl (by omega) ?_
      refine L_fieldAddr rfl rfl fld85_0 ?_
      refine L_storeElF (fo := 0) (x' := (((mtx (k0 + cnts (x1.take i))), b2, b3) : T_CSnap)) rfl rfl (by repeat (first | exact Pick.here _ | apply Pick.there)) rfl (show ((half k0 i x1) : List T_CSnap)[i]? = some ((b1, b2, b3) : T_CSnap) from half_get (k := k0) hu) rfl rfl (by decide) rfl (fun w h => by exact ⟨(by exact trivial), h.2.1, h.2.2⟩) one9 ?_
      refine L_nil ?_
      refine W_seq ?_
      refine W_region ?_
      refine L_move rfl rfl ?_
      refine L_binV rfl rfl rfl (bv_addR (by unfold inR; omega)) ?_
      refine L_assign rfl rfl ?_
      refine L_nil ?_
      rw [show (((k0 + cnts (x1.take i)) : Nat) : Int) + 1 = (((k0 + cnts (x1.take i)) + 1 : Nat) : Int) from rfl]
      refine W_seq ?_
      refine W_region ?_
      refine L_move rfl rfl ?_
      refine L_move rfl rfl ?_
      refine L_move rfl rfl ?_
      refine L_callX rfl fn40 rfl (by exact fun w hw => markText_spec w ((k0 + cnts (x1.take i)) + 1) (by omega) (by omega)) ?_
      refine L_indexAddr rfl rfl rfl el79 rfl (by omega) ?_
      refine L_fieldAddr rfl rfl fld85_1 ?_
      refine L_storeElF (fo := 1) (x' := (((mtx (k0 + cnts (x1.take i))), (mtx ((k0 + cnts (x1.take i)) + 1)), b3) : T_CSnap)) rfl rfl (by repeat (first | exact Pick.here _ | apply Pick.there)) rfl (show (((half k0 i x1).set i (((mtx (k0 + cnts (x1.take i))), b2, b3) : T_CSnap)) : List T_CSnap)[i]? = some (((mtx (k0 + cnts (x1.take i))), b2, b3) : T_CSnap) from set_get (half_get (k := k0) hu)) rfl rfl (by decide) rfl (fun w h => by exact ⟨h.1, (by exact trivial), h.2.2⟩) one9 ?_
      refine L_nil ?_
      refine W_seq ?_
      refine W_region ?_
      refine L_move rfl rfl ?_
      refine L_binV rfl rfl rfl (bv_addR (by unfold inR; omega)) ?_
      refine L_assign rfl rfl ?_
      refine L_nil ?_
      rw [show ((((k0 + cnts (x1.take i)) + 1) : Nat) : Int) + 1 = ((((k0 + cnts (x1.take i)) + 1) + 1 : Nat) : Int) from rfl]
      refine W_region ?_
      refine L_move rfl rfl ?_
      refine L_move rfl rfl ?_
      refine L_indexAddr rfl rfl rfl el79 rfl (by omega) ?_
      refine L_fieldAddr rfl rfl fld85_2 ?_
      refine L_load rfl rfl (by exact RdC.el (L := (⟨some ⟨g, 0, none⟩, c1, e1, (((half k0 i x1).set i (((mtx (k0 + cnts (x1.take i))), b2, b3) : T_CSnap)).set i (((mtx (k0 + cnts (x1.take i))), (mtx ((k0 + cnts (x1.take i)) + 1)), b3) : T_CSnap)), y1⟩ : TL T_CSnap)) (by repeat (first | exact List.Mem.head _ | apply List.Mem.tail)) rfl (show ((((half k0 i x1).set i (((mtx (k0 + cnts (x1.take i))), b2, b3) : T_CSnap)).set i (((mtx (k0 + cnts (x1.take i))), (mtx ((k0 + cnts (x1.take i)) + 1)), b3) : T_CSnap)) : List T_CSnap)[i]? = some (((mtx (k0 + cnts (x1.take i))), (mtx ((k0 + cnts (x1.take i)) + 1)), b3) : T_CSnap) from set_get (set_get (half_get (k := k0) hu)))) one55 rfl ?_
      refine L_move rfl rfl ?_
      refine L_conv (fun w h => (frontPick (Pick.there _ (Pick.here _)) (tree_pair (frontPick (Pick.there _ (Pick.here _)) (tree_pair (el_out (L := (⟨some ⟨g, 0, none⟩, c1, e1, (((half k0 i x1).set i (((mtx (k0 + cnts (x1.take i))), b2, b3) : T_CSnap)).set i (((mtx (k0 + cnts (x1.take i))), (mtx ((k0 + cnts (x1.take i)) + 1)), b3) : T_CSnap)), y1⟩ : TL T_CSnap)) (show ((((half k0 i x1).set i (((mtx (k0 + cnts (x1.take i))), b2, b3) : T_CSnap)).set i (((mtx (k0 + cnts (x1.take i))), (mtx ((k0 + cnts (x1.take i)) + 1)), b3) : T_CSnap)) : List T_CSnap)[i]? = some (((mtx (k0 + cnts (x1.take i))), (mtx ((k0 + cnts (x1.take i)) + 1)), b3) : T_CSnap) from set_get (set_get (half_get (k := k0) hu))) (frontPick (by repeat (first | exact Pick.here _ | apply Pick.there)) h))))))) ?_
      refine L_call1 rfl fn77 rfl (Pick.here _) (by exact fun w hw => markStringS_spec w b3 (((k0 + cnts (x1.take i)) + 1) + 1) (by omega) (by omega)) ?_
      rintro v M1 ⟨hv, rfl⟩
      subst hv
      simp only [List.cons_append, List.nil_append]
      refine L_conv (M' := treeH (⟨some ⟨g, 0, none⟩, c1, e1, ((((half k0 i x1).set i (((mtx (k0 + cnts (x1.take i))), b2, b3) : T_CSnap)).set i (((mtx (k0 + cnts (x1.take i))), (mtx ((k0 + cnts (x1.take i)) + 1)), b3) : T_CSnap)).set i (((mtx (k0 + cnts (x1.take i))), (mtx ((k0 + cnts (x1.take i)) + 1)), (Mk.mkd (((k0 + cnts (x1.take i)) + 1) + 1) b3)) : T_CSnap)), y1⟩ : TL T_CSnap) :: _) (fun w h => el_in (L := (⟨some ⟨g, 0, none⟩, c1, e1, (((half k0 i x1).set i (((mtx (k0 + cnts (x1.take i))), b2, b3) : T_CSnap)).set i (((mtx (k0 + cnts (x1.take i))), (mtx ((k0 + cnts (x1.take i)) + 1)), b3) : T_CSnap)), y1⟩ : TL T_CSnap)) (show ((((half k0 i x1).set i (((mtx (k0 + cnts (x1.take i))), b2, b3) : T_CSnap)).set i (((mtx (k0 + cnts (x1.take i))), (mtx ((k0 + cnts (x1.take i)) + 1)), b3) : T_CSnap)) : List T_CSnap)[i]? = some (((mtx (k0 + cnts (x1.take i))), (mtx ((k0 + cnts (x1.take i)) + 1)), b3) : T_CSnap) from set_get (set_get (half_get (k := k0) hu))) (by simp only [cells_pair, cells_mkTL]) (pairPick (Pick.here _) (pairPick (Pick.here _) h))) ?_
      refine L_assign rfl rfl ?_
      refine L_nil ?_
      have hfin : ((((half k0 i x1).set i (((mtx (k0 + cnts (x1.take i))), b2, b3) : T_CSnap)).set i (((mtx (k0 + cnts (x1.take i))), (mtx ((k0 + cnts (x1.take i)) + 1)), b3) : T_CSnap)).set i (((mtx (k0 + cnts (x1.take i))), (mtx ((k0 + cnts (x1.take i)) + 1)), (Mk.mkd (((k0 + cnts (x1.take i)) + 1) + 1) b3)) : T_CSnap)) = half k0 (i + 1) x1 := by
        have h9 := half_set (k := k0) hu
        try simp only [mk_pair, mk_int, mk_str, cnt_pair, cnt_int, cnt_str, ← Nat.add_assoc] at h9
        try simp only [List.set_set]
        exact h9
      refine W_conv (M' := treeH (⟨some ⟨g, 0, none⟩, c1, e1, (half k0 (i + 1) x1), y1⟩ : TL T_CSnap) :: _) (fun w h => by rw [← hfin]; exact h) ?_
      have hE : ((((k0 + cnts (x1.take i)) + 1) + 1) + Mk.cnt b3) = k0 + cnts (x1.take (i + 1)) := by rw [hs]; (try simp only [cnt_pair, cnt_int, cnt_str]); omega
      rw [hE]
      refine W_region ?_
      refine L_move rfl rfl ?_
      refine L_binV rfl rfl rfl (bv_addR (by unfold inR; omega)) ?_
      refine L_assign rfl rfl ?_
      refine L_nil ?_
      refine ⟨i + 1, (Sub.cons rfl (Sub.cons rfl (Sub.cons rfl (Sub.nil _)))), (MSub.cons (by repeat (first | exact Pick.here _ | apply Pick.there)) (MSub.nil _)), ?_, ?_⟩
      · skip
        show i + 1 ≤ x1.length
        omega
      · skip
        show x1.length - (i + 1) < x1.length - i
        omega
    · skip
      refine W_exit ?_
      refine W_seq ?_
      refine W_region ?_
      refine L_move rfl rfl ?_
      refine L_assign rfl rfl ?_
      refine L_nil ?_
      refine W_ret ?_
      -- return 1 (R9)
      have hk2 : x1.length ≤ i := by simpa using hc2
      rw [half_all k0 hk2]
      refine res1 rfl (ResOK.tmp rfl) ⟨?_, rfl⟩ (MSub.cons (by repeat (first | exact Pick.here _ | apply Pick.there)) (MSub.nil _))
      have hk2 : x1.length ≤ i := by simpa using hc2
      rw [List.take_of_length_le hk2]; rfl

theorem markCSetS_spec (w : World) (t1 : TL T_CSet) (k0 : Nat) (hk0 : 0 < k0) (hb : k0 + Mk.cnt t1 < 9223372036854775807) : Spec Tryz.prog 38 [t1.hdr, .int .i64 (k0 : Int)].toArray w [treeH t1] (fun v M => v = .int .i64 ((k0 + Mk.cnt t1 : Nat) : Int) ∧ M = [treeH (Mk.mkd k0 t1)]) := by
  obtain ⟨a1, c1, e1, x1, y1⟩ := t1
  replace hb : k0 + cnts x1 < 9223372036854775807 := hb
  dsimp only [TL.hdr]
  refine Spec.intro Tryz.func38 rfl Tryz.ntmps38 rfl ?_
  refine W_fact (fun w h => ow_facts (h.prs _ (List.mem_cons_self ..))) fun hF => ?_
  replace hF : x1.length ≤ 9223372036854775807 ∧ (0 < x1.length → ∃ g, a1 = some ⟨g, 0, none⟩) := hF
  refine W_seq ?_
  refine W_region ?_
  refine L_assign rfl rfl ?_
  refine L_nil ?_
  refine W_seq ?_
  refine W_seq ?_
  refine W_region ?_
  refine L_assign rfl rfl ?_
  refine L_nil ?_
  refine W_block ?_
  refine W_conv (M' := [treeH (⟨a1, c1, e1, half k0 0 x1, y1⟩ : TL T_CSet)]) (fun w h => by rw [half_zero]; exact h) ?_
  refine W_loopC (σ := Nat) 0 (fun (i : Nat) => [(1, .int .i64 ((k0 + cnts (x1.take i) : Nat) : Int)), (5, .int .i64 (i : Int))]) (fun (i : Nat) => [treeH (⟨a1, c1, e1, half k0 i x1, y1⟩ : TL T_CSet)]) (fun (i : Nat) => i ≤ x1.length) (fun (i : Nat) => x1.length - i) [(0, _)] [] ?_ (Sub.cons rfl (Sub.cons rfl (Sub.cons rfl (Sub.nil _)))) (MSub.cons (by repeat (first | exact Pick.here _ | apply Pick.there)) (MSub.nil _)) ?_
  · skip
    exact Nat.zero_le _
  · skip
    rintro i hi
    refine W_weaken (l' := [(0, _), (1, _), (5, _)]) (Sub.cons rfl (Sub.cons rfl (Sub.cons rfl (Sub.nil _)))) (M' := [_]) (MSub.cons (by repeat (first | exact Pick.here _ | apply Pick.there)) (MSub.nil _)) ?_
    refine W_seq ?_
    refine W_seq ?_
    refine W_region ?_
    refine L_move rfl rfl ?_
    refine L_move rfl rfl ?_
    refine L_lenS rfl rfl el33 ?_
    refine L_binV rfl rfl rfl bv_lss ?_
    refine L_nil ?_
    refine W_weaken (l' := [(0, _), (1, _), (5, _), (9, _)]) (Sub.cons rfl (Sub.cons rfl (Sub.cons rfl (Sub.cons rfl (Sub.nil _))))) (MSub.refl _) ?_
    refine W_cond rfl (fun hc2 => ?_) (fun hc2 => ?_)
    · skip
      have hk1 : i < x1.length := by simpa using hc2
      obtain ⟨g, rfl⟩ := hF.2 (by omega)
      obtain ⟨u, hu⟩ := getEl hk1
      have hs := cnts_take_succ hu
      have hle := cnts_take_le x1 (i + 1)
      have hlh := half_length k0 i x1
      obtain ⟨b1, b2⟩ := u
      simp only [cnt_pair, cnt_int, cnt_str] at hs
      refine W_skip ?_
      refine W_seq ?_
      refine W_block ?_
      refine W_seq ?_
      refine W_region ?_
      refine L_move rfl rfl ?_
      refine L_move rfl rfl ?_
      refine L_move rfl rfl ?_
      refine L_callX rfl fn40 rfl (by exact fun w hw => markText_spec w (k0 + cnts (x1.take i)) (by omega) (by omega)) ?_
      refine L_indexAddr rfl rfl rfl el33 rfl (by omega) ?_
      refine L_fieldAddr rfl rfl fld81_0 ?_
      refine L_storeElF (fo := 0) (x' := (((mtx (k0 + cnts (x1.take i))), b2) : T_CSet)) rfl rfl (by repeat (first | exact Pick.here _ | apply Pick.there)) rfl (show ((half k0 i x1) : List T_CSet)[i]? = some ((b1, b2) : T_CSet) from half_get (k := k0) hu) rfl rfl (by decide) rfl (fun w h => by exact ⟨(by exact trivial), h.2⟩) one9 ?_
      refine L_nil ?_
      refine W_seq ?_
      refine W_region ?_
      refine L_move rfl rfl ?_
      refine L_binV rfl rfl rfl (bv_addR (by unfold inR; omega)) ?_
      refine L_assign rfl rfl ?_
      refine L_nil ?_
      rw [show (((k0 + cnts (x1.take i)) : Nat) : Int) + 1 = (((k0 + cnts (x1.take i)) + 1 : Nat) : Int) from rfl]
      refine W_region ?_
      refine L_move rfl rfl ?_
      refine L_move rfl rfl ?_
      refine L_indexAddr rfl rfl rfl el33 rfl (by omega) ?_
      refine L_fieldAddr rfl rfl fld81_1 ?_
      refine L_load rfl rfl (by exact RdC.el (L := (⟨some ⟨g, 0, none⟩, c1, e1, ((half k0 i x1).set i (((mtx (k0 + cnts (x1.take i))), b2) : T_CSet)), y1⟩ : TL T_CSet)) (by repeat (first | exact List.Mem.head _ | apply List.Mem.tail)) rfl (show (((half k0 i x1).set i (((mtx (k0 + cnts (x1.take i))), b2) : T_CSet)) : List T_CSet)[i]? = some (((mtx (k0 + cnts (x1.take i))), b2) : T_CSet) from set_get (half_get (k := k0) hu))) one79 rfl ?_
      refine L_move rfl rfl ?_
      refine L_conv (fun w h => (frontPick (Pick.there _ (Pick.here _)) (tree_pair (el_out (L := (⟨some ⟨g, 0, none⟩, c1, e1, ((half k0 i x1).set i (((mtx (k0 + cnts (x1.take i))), b2) : T_CSet)), y1⟩ : TL T_CSet)) (show (((half k0 i x1).set i (((mtx (k0 + cnts (x1.take i))), b2) : T_CSet)) : List T_CSet)[i]? = some (((mtx (k0 + cnts (x1.take i))), b2) : T_CSet) from set_get (half_get (k := k0) hu)) (frontPick (by repeat (first | exact Pick.here _ | apply Pick.there)) h))))) ?_
      refine L_call1 rfl fn61 rfl (Pick.here _) (by exact fun w hw => markCSnapS_spec w b2 ((k0 + cnts (x1.take i)) + 1) (by omega) (by omega)) ?_
      rintro v M1 ⟨hv, rfl⟩
      subst hv
      simp only [List.cons_append, List.nil_append]
      refine L_conv (M' := treeH (⟨some ⟨g, 0, none⟩, c1, e1, (((half k0 i x1).set i (((mtx (k0 + cnts (x1.take i))), b2) : T_CSet)).set i (((mtx (k0 + cnts (x1.take i))), (Mk.mkd ((k0 + cnts (x1.take i)) + 1) b2)) : T_CSet)), y1⟩ : TL T_CSet) :: _) (fun w h => el_in (L := (⟨some ⟨g, 0, none⟩, c1, e1, ((half k0 i x1).set i (((mtx (k0 + cnts (x1.take i))), b2) : T_CSet)), y1⟩ : TL T_CSet)) (show (((half k0 i x1).set i (((mtx (k0 + cnts (x1.take i))), b2) : T_CSet)) : List T_CSet)[i]? = some (((mtx (k0 + cnts (x1.take i))), b2) : T_CSet) from set_get (half_get (k := k0) hu)) (by simp only [cells_pair, cells_mkTL]) (pairPick (Pick.here _) h)) ?_
      refine L_assign rfl rfl ?_
      refine L_nil ?_
      have hfin : (((half k0 i x1).set i (((mtx (k0 + cnts (x1.take i))), b2) : T_CSet)).set i (((mtx (k0 + cnts (x1.take i))), (Mk.mkd ((k0 + cnts (x1.take i)) + 1) b2)) : T_CSet)) = half k0 (i + 1) x1 := by
        have h9 := half_set (k := k0) hu
        try simp only [mk_pair, mk_int, mk_str, cnt_pair, cnt_int, cnt_str, ← Nat.add_assoc] at h9
        try simp only [List.set_set]
        exact h9
      refine W_conv (M' := treeH (⟨some ⟨g, 0, none⟩, c1, e1, (half k0 (i + 1) x1), y1⟩ : TL T_CSet) :: _) (fun w h => by rw [← hfin]; exact h) ?_
      have hE : (((k0 + cnts (x1.take i)) + 1) + Mk.cnt b2) = k0 + cnts (x1.take (i + 1)) := by rw [hs]; (try simp only [cnt_pair, cnt_int, cnt_str]); omega
      rw [hE]
      refine W_region ?_
      refine L_move rfl rfl ?_
      refine L_binV rfl rfl rfl (bv_addR (by unfold inR; omega)) ?_
      refine L_assign rfl rfl ?_
      refine L_nil ?_
      refine ⟨i + 1, (Sub.cons rfl (Sub.cons rfl (Sub.cons rfl (Sub.nil _)))), (MSub.cons (by repeat (first | exact Pick.here _ | apply Pick.there)) (MSub.nil _)), ?_, ?_⟩
      · skip
        show i + 1 ≤ x1.length
        omega
      · skip
        show x1.length - (i + 1) < x1.length - i
        omega
    · skip
      refine W_exit ?_
      refine W_seq ?_
      refine W_region ?_
      refine L_move rfl rfl ?_
      refine L_assign rfl rfl ?_
      refine L_nil ?_
      refine W_ret ?_
      -- return 1 (R7)
      have hk2 : x1.length ≤ i := by simpa using hc2
      rw [half_all k0 hk2]
      refine res1 rfl (ResOK.tmp rfl) ⟨?_, rfl⟩ (MSub.cons (by repeat (first | exact Pick.here _ | apply Pick.there)) (MSub.nil _))
      have hk2 : x1.length ≤ i := by simpa using hc2
      rw [List.take_of_length_le hk2]; rfl

theorem markCatalog_spec (w : World) (t1 : T_Catalog) (k0 : Nat) (hk0 : 0 < k0) (hb : k0 + Mv.cnt t1 < 9223372036854775807) : Spec Tryz.prog 15 [.agg (GT.cells t1).toArray, .int .i64 (k0 : Int)].toArray w [treeH t1] (fun v M => v = .int .i64 ((k0 + Mv.cnt t1 : Nat) : Int) ∧ M = [treeH (Mv.mkd k0 t1)]) := by
  generalize t1 = a1 at *
  simp only [mv_cnt_pair, mv_cnt_int, mv_cnt_bool, mv_cnt_str, mv_cnt_TL, mv_pair, mv_int, mv_bool, mv_str, mv_TL, Nat.zero_add, Nat.add_zero, ← Nat.add_assoc] at hb ⊢
  change Spec _ _ [Value.agg #[a1.hdr], .int .i64 (k0 : Int)].toArray w _ _
  refine Spec.intro Tryz.func15 rfl Tryz.ntmps15 rfl ?_
  refine W_seq ?_
  refine W_region ?_
  refine L_box rfl rfl (fun bk2 => ?_)
  refine L_assign rfl rfl ?_
  refine L_nil ?_
  refine W_seq ?_
  refine W_region ?_
  refine L_fieldAddr rfl rfl fld35_0 ?_
  refine L_load rfl rfl (by first | exact RdC.blk (by repeat (first | exact List.Mem.head _ | apply List.Mem.tail))) one33 rfl ?_
  refine L_move rfl rfl ?_
  refine L_conv (fun w h => show Holds _ _ _ w from (frontPick (x := treeH (a1 : T_Catalog)) (by repeat (first | exact Pick.here _ | apply Pick.there)) h)) ?_
  refine L_call1 rfl fn38 rfl (Pick.here _) (by exact fun w hw => markCSetS_spec w a1 (k0) (by omega) (by omega)) ?_
  rintro v M1 ⟨hv, rfl⟩
  subst hv
  simp only [List.cons_append, List.nil_append]
  refine L_conv (M' := treeH ((Mk.mkd k0 a1) : T_Catalog) :: _) (fun w h => h) ?_
  refine L_assign rfl rfl ?_
  refine L_nil ?_
  refine W_seq ?_
  refine W_region ?_
  refine L_move rfl rfl ?_
  refine L_assign rfl rfl ?_
  refine L_nil ?_
  refine W_ret ?_
  -- return 1 (R2)
  refine res1 rfl (ResOK.tmp rfl) ⟨rfl, rfl⟩ (MSub.cons (by repeat (first | exact Pick.here _ | apply Pick.there)) (MSub.nil _))

end Go.Proofs.SL
