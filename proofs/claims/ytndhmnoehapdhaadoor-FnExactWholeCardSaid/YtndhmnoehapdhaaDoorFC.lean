/- The families of the exact laws over the types that they are given: equality, size, copy, marks. -/
import Derived.Test.YtndhmnoehapdhaaDoorFL
import Derived.Test.YtndhmnoehapdhaaDoorRows
namespace Go.Proofs.SL
open Go
abbrev T_CSnap := ByteArray × ByteArray × (TL ByteArray)
abbrev T_CSet := ByteArray × (TL T_CSnap)
abbrev T_Catalog := (TL T_CSet)
theorem el73 : elOf Tryd.prog 73 = some (9, 1, 16, [.string ByteArray.empty]) := by kernel_rfl
theorem el70 : elOf Tryd.prog 70 = some (75, 3, 56, [.string ByteArray.empty, .string ByteArray.empty, .slice none 0 0]) := by kernel_rfl
theorem agg75 : aggOf Tryd.prog 75 = some 3 := by kernel_rfl
theorem el51 : elOf Tryd.prog 51 = some (72, 2, 40, [.string ByteArray.empty, .slice none 0 0]) := by kernel_rfl
theorem agg72 : aggOf Tryd.prog 72 = some 2 := by kernel_rfl
theorem fld75_0 : fldOf Tryd.prog 75 0 = some 0 := by kernel_rfl
theorem fld75_1 : fldOf Tryd.prog 75 1 = some 1 := by kernel_rfl
theorem fld75_2 : fldOf Tryd.prog 75 2 = some 2 := by kernel_rfl
theorem one73 : oneOf Tryd.prog 73 = true := by kernel_rfl
theorem fn164 : IsFn Tryd.prog 164 := ⟨_, Tryd.func164, by kernel_rfl, rfl⟩
theorem fld188_0 : fldOf Tryd.prog 188 0 = some 0 := by kernel_rfl
theorem fld188_1 : fldOf Tryd.prog 188 1 = some 1 := by kernel_rfl
theorem fld188_2 : fldOf Tryd.prog 188 2 = some 2 := by kernel_rfl
theorem fn162 : IsFn Tryd.prog 162 := ⟨_, Tryd.func162, by kernel_rfl, rfl⟩
theorem zero75 : zeroOf Tryd.prog 75 = some [.string ByteArray.empty, .string ByteArray.empty, .slice none 0 0] := by kernel_rfl
theorem fn163 : IsFn Tryd.prog 163 := ⟨_, Tryd.func163, by kernel_rfl, rfl⟩
theorem fn156 : IsFn Tryd.prog 156 := ⟨_, Tryd.func156, by kernel_rfl, rfl⟩
theorem el130 : elOf Tryd.prog 130 = some (188, 3, 56, [.string ByteArray.empty, .string ByteArray.empty, .slice none 0 0]) := by kernel_rfl
theorem agg188 : aggOf Tryd.prog 188 = some 3 := by kernel_rfl
theorem fn154 : IsFn Tryd.prog 154 := ⟨_, Tryd.func154, by kernel_rfl, rfl⟩
theorem fn155 : IsFn Tryd.prog 155 := ⟨_, Tryd.func155, by kernel_rfl, rfl⟩
theorem fld72_0 : fldOf Tryd.prog 72 0 = some 0 := by kernel_rfl
theorem fld72_1 : fldOf Tryd.prog 72 1 = some 1 := by kernel_rfl
theorem one70 : oneOf Tryd.prog 70 = true := by kernel_rfl
theorem fn141 : IsFn Tryd.prog 141 := ⟨_, Tryd.func141, by kernel_rfl, rfl⟩
theorem fld132_0 : fldOf Tryd.prog 132 0 = some 0 := by kernel_rfl
theorem fld132_1 : fldOf Tryd.prog 132 1 = some 1 := by kernel_rfl
theorem one130 : oneOf Tryd.prog 130 = true := by kernel_rfl
theorem fn137 : IsFn Tryd.prog 137 := ⟨_, Tryd.func137, by kernel_rfl, rfl⟩
theorem zero72 : zeroOf Tryd.prog 72 = some [.string ByteArray.empty, .slice none 0 0] := by kernel_rfl
theorem fn138 : IsFn Tryd.prog 138 := ⟨_, Tryd.func138, by kernel_rfl, rfl⟩
theorem fn117 : IsFn Tryd.prog 117 := ⟨_, Tryd.func117, by kernel_rfl, rfl⟩
theorem el46 : elOf Tryd.prog 46 = some (132, 2, 40, [.string ByteArray.empty, .slice none 0 0]) := by kernel_rfl
theorem agg132 : aggOf Tryd.prog 132 = some 2 := by kernel_rfl
theorem fn108 : IsFn Tryd.prog 108 := ⟨_, Tryd.func108, by kernel_rfl, rfl⟩
theorem fn111 : IsFn Tryd.prog 111 := ⟨_, Tryd.func111, by kernel_rfl, rfl⟩
theorem fld53_0 : fldOf Tryd.prog 53 0 = some 0 := by kernel_rfl
theorem one51 : oneOf Tryd.prog 51 = true := by kernel_rfl
theorem fn80 : IsFn Tryd.prog 80 := ⟨_, Tryd.func80, by kernel_rfl, rfl⟩
theorem fld48_0 : fldOf Tryd.prog 48 0 = some 0 := by kernel_rfl
theorem one46 : oneOf Tryd.prog 46 = true := by kernel_rfl
theorem fn71 : IsFn Tryd.prog 71 := ⟨_, Tryd.func71, by kernel_rfl, rfl⟩
theorem zero53 : zeroOf Tryd.prog 53 = some [.slice none 0 0] := by kernel_rfl
theorem fn76 : IsFn Tryd.prog 76 := ⟨_, Tryd.func76, by kernel_rfl, rfl⟩
theorem agg53 : aggOf Tryd.prog 53 = some 1 := by kernel_rfl
theorem eqStringS_spec (w : World) (t1 t2 : TL ByteArray) (h1 : GT.rd w [] t1) (h2 : GT.rd w [] t2) : Spec Tryd.prog 164 [t1.hdr, t2.hdr].toArray w [] (IsV (.bool (eqB (GT.dat t1) (GT.dat t2)))) := by
  obtain ⟨a1, c1, e1, x1, y1⟩ := t1
  obtain ⟨a2, c2, e2, x2, y2⟩ := t2
  have hm1 : x1.length ≤ 9223372036854775807 := rd_len h1
  have hm2 : x2.length ≤ 9223372036854775807 := rd_len h2
  dsimp only [TL.hdr]
  refine Spec.intro Tryd.func164 rfl Tryd.ntmps164 rfl ?_
  refine W_seq ?_
  refine W_region ?_
  refine L_assign rfl rfl ?_
  refine L_nil ?_
  refine W_seq ?_
  refine W_seq ?_
  refine W_region ?_
  refine L_move rfl rfl ?_
  refine L_lenS rfl rfl el73 ?_
  refine L_move rfl rfl ?_
  refine L_lenS rfl rfl el73 ?_
  refine L_binV rfl rfl rfl bv_neq ?_
  refine L_nil ?_
  refine W_weaken (l' := [(0, _), (1, _), (10, _)]) (Sub.cons rfl (Sub.cons rfl (Sub.cons rfl (Sub.nil _)))) (MSub.refl _) ?_
  refine W_cond rfl (fun hc1 => ?_) (fun hc1 => ?_)
  · skip
    refine W_seq ?_
    refine W_region ?_
    refine L_assign rfl rfl ?_
    refine L_nil ?_
    refine W_ret ?_
    -- return 1 (R2)
    refine res1 rfl (ResOK.tmp rfl) ⟨?_, rfl⟩ (MSub.nil _)
    refine congrArg Value.bool (Eq.symm (eqB_false.2 fun e => ?_))
    simp at hc1
    exact hc1 (by have := congrArg List.length e; simp [dat_TL] at this; omega)
  · skip
    have hl : x1.length = x2.length := by simp at hc1; omega
    refine W_skip ?_
    refine W_seq ?_
    refine W_seq ?_
    refine W_region ?_
    refine L_assign rfl rfl ?_
    refine L_nil ?_
    refine W_block ?_
    refine W_loopC (σ := Nat) 0 (fun (k : Nat) => [(5, .int .i64 (k : Int))]) (fun (k : Nat) => []) (fun (k : Nat) => k ≤ x1.length ∧ (x1.map GT.dat).take k = (x2.map GT.dat).take k) (fun (k : Nat) => x1.length - k) [(0, _), (1, _)] [] ?_ (Sub.cons rfl (Sub.cons rfl (Sub.cons rfl (Sub.nil _)))) (MSub.nil _) ?_
    · skip
      exact ⟨Nat.zero_le _, rfl⟩
    · skip
      rintro k ⟨hk, ht⟩
      refine W_weaken (l' := [(0, _), (1, _), (5, _)]) (Sub.cons rfl (Sub.cons rfl (Sub.cons rfl (Sub.nil _)))) (M' := []) (MSub.nil _) ?_
      refine W_seq ?_
      refine W_seq ?_
      refine W_region ?_
      refine L_move rfl rfl ?_
      refine L_move rfl rfl ?_
      refine L_lenS rfl rfl el73 ?_
      refine L_binV rfl rfl rfl bv_lss ?_
      refine L_nil ?_
      refine W_weaken (l' := [(0, _), (1, _), (5, _), (14, _)]) (Sub.cons rfl (Sub.cons rfl (Sub.cons rfl (Sub.cons rfl (Sub.nil _))))) (MSub.refl _) ?_
      refine W_cond rfl (fun hc4 => ?_) (fun hc4 => ?_)
      · skip
        have hk1 : k < x1.length := by simpa using hc4
        obtain ⟨g1, o1, rfl⟩ := rd_addr h1 hk1
        obtain ⟨g2, o2, rfl⟩ := rd_addr (k := k) h2 (show k < x2.length by omega)
        obtain ⟨u1, hu1⟩ := getEl hk1
        obtain ⟨u2, hu2⟩ := getEl (show k < x2.length by omega)
        refine W_skip ?_
        refine W_seq ?_
        refine W_block ?_
        refine W_seq ?_
        refine W_D0 [25] mix (by kernel_rfl) rfl ?_
        refine D_move GC.none (OpV.t rfl) ?_
        refine D_move GC.none (OpV.t rfl) ?_
        refine D_indexAddr _ GC.none (OpV.t rfl) (OpV.t rfl) el73 (fun hg => ⟨rfl, by (try dsimp only); omega⟩) ?_
        refine D_load0 GC.none (OpV.t rfl) (fun hg => (by first | exact RdC.blk (by repeat (first | exact List.Mem.head _ | apply List.Mem.tail)) | exact RdC.old (Cells.el h1 rfl hu1) | exact RdC.old (Cells.el h2 rfl hu2))) one9 rfl ?_
        refine D_move GC.none (OpV.t rfl) ?_
        refine D_move GC.none (OpV.t rfl) ?_
        refine D_indexAddr _ GC.none (OpV.t rfl) (OpV.t rfl) el73 (fun hg => ⟨rfl, by (try dsimp only); omega⟩) ?_
        refine D_load0 GC.none (OpV.t rfl) (fun hg => (by first | exact RdC.blk (by repeat (first | exact List.Mem.head _ | apply List.Mem.tail)) | exact RdC.old (Cells.el h1 rfl hu1) | exact RdC.old (Cells.el h2 rfl hu2))) one9 rfl ?_
        refine D_bin GC.none (OpV.t rfl) (OpV.t rfl) (fun hg => bv_sneq) ?_
        refine DV_nil ?_
        refine Give_is rfl rfl ?_
        refine Give_drop rfl ?_
        refine Give_drop rfl ?_
        refine Give_drop rfl ?_
        refine Give_drop rfl ?_
        refine Give_drop rfl ?_
        refine Give_drop rfl ?_
        refine Give_drop rfl ?_
        refine Give_drop rfl ?_
        refine Give_nil ?_
        refine W_weaken (l' := [(0, _), (1, _), (5, _), (25, _)]) (Sub.cons rfl (Sub.cons rfl (Sub.cons rfl (Sub.cons rfl (Sub.nil _))))) (MSub.refl _) ?_
        refine W_cond rfl (fun hc6 => ?_) (fun hc6 => ?_)
        · skip
          refine W_seq ?_
          refine W_region ?_
          refine L_assign rfl rfl ?_
          refine L_nil ?_
          refine W_ret ?_
          -- return 2 (R7)
          refine res1 rfl (ResOK.tmp rfl) ⟨?_, rfl⟩ (MSub.nil _)
          refine congrArg Value.bool (Eq.symm (eqB_false.2 fun e => ?_))
          simp at hc6
          replace e : x1.map GT.dat = x2.map GT.dat := e
          have e2 := congrArg (fun l => l[k]?) e
          simp only [List.getElem?_map, hu1, hu2, Option.map_some, Option.some.injEq] at e2
          exact hc6 (by simpa [dat_int, dat_str, dat_bool] using e2)
        · skip
          refine W_skip ?_
          refine W_region ?_
          refine L_move rfl rfl ?_
          refine L_binV rfl rfl rfl (bv_addR (by unfold inR; omega)) ?_
          refine L_assign rfl rfl ?_
          refine L_nil ?_
          refine ⟨k + 1, (Sub.cons rfl (Sub.cons rfl (Sub.cons rfl (Sub.nil _)))), (MSub.nil _), ?_, ?_⟩
          · skip
            exact ⟨by omega, take_succ_eq ht (by rw [List.getElem?_map, hu1]; rfl) (by rw [List.getElem?_map, hu2]; rfl) (by simpa [dat_int, dat_str, dat_bool] using hc6)⟩
          · skip
            (try dsimp only); omega
      · skip
        refine W_exit ?_
        refine W_seq ?_
        refine W_region ?_
        refine L_assign rfl rfl ?_
        refine L_nil ?_
        refine W_ret ?_
        -- return 3 (R8)
        refine res1 rfl (ResOK.tmp rfl) ⟨?_, rfl⟩ (MSub.nil _)
        refine congrArg Value.bool (Eq.symm (eqB_true.2 ?_))
        have hk2 : x1.length ≤ k := by simpa using hc4
        have h3 := ht
        rw [List.take_of_length_le (by simp; omega), List.take_of_length_le (by simp; omega)] at h3
        exact h3

theorem szStringS_spec (w : World) (t1 : TL ByteArray) (left : Int) (hl : 0 ≤ left) (hm : left ≤ 1048576) (h1 : GT.rd w [] t1) (ho : Ok.ok (GT.dat t1)) : Spec Tryd.prog 162 [t1.hdr, .int .i64 left].toArray w [] (IsV (.int .i64 (if (Bk.bulk t1 : Int) ≤ left then left - (Bk.bulk t1 : Int) else -1))) := by
  obtain ⟨a1, c1, e1, x1, y1⟩ := t1
  have hm1 : x1.length ≤ 9223372036854775807 := rd_len h1
  rw [bulk_TL]
  dsimp only [TL.hdr]
  refine Spec.intro Tryd.func162 rfl Tryd.ntmps162 rfl ?_
  refine W_seq ?_
  refine W_region ?_
  refine L_assign rfl rfl ?_
  refine L_nil ?_
  refine W_seq ?_
  refine W_region ?_
  refine L_move rfl rfl ?_
  refine L_move rfl rfl ?_
  refine L_lenS rfl rfl el73 ?_
  refine L_binV rfl rfl rfl (bv_subR (by unfold inR; omega)) ?_
  refine L_assign rfl rfl ?_
  refine L_nil ?_
  refine W_seq ?_
  refine W_seq ?_
  refine W_region ?_
  refine L_move rfl rfl ?_
  refine L_binV rfl rfl rfl bv_lss ?_
  refine L_nil ?_
  refine W_weaken (l' := [(0, _), (1, _), (11, _)]) (Sub.cons rfl (Sub.cons rfl (Sub.cons rfl (Sub.nil _)))) (MSub.refl _) ?_
  refine W_cond rfl (fun hc2 => ?_) (fun hc2 => ?_)
  · skip
    have hb0 : left - (x1.length : Int) < 0 := by simpa using hc2
    refine W_seq ?_
    refine W_region ?_
    refine L_assign rfl rfl ?_
    refine L_nil ?_
    refine W_ret ?_
    -- return 1 (R3)
    refine res1 rfl (ResOK.tmp rfl) ⟨?_, rfl⟩ (MSub.nil _)
    first
      | (rw [if_neg (by simp only [Int.natCast_add]; omega)]; done)
      | (rw [if_neg (by have := bulks_take_le x1 (k + 1); simp only [Int.natCast_add]; omega)]; done)
      | (have hk2 : x1.length ≤ k := by simpa using hc5
         rw [List.take_of_length_le hk2] at ht ⊢
         rw [if_pos (by simp only [Int.natCast_add]; omega)]; congr 1; simp only [Int.natCast_add]; omega)
  · skip
    have hb0 : ¬ (left - (x1.length : Int) < 0) := by simpa using hc2
    refine W_skip ?_
    refine W_seq ?_
    refine W_seq ?_
    refine W_region ?_
    refine L_assign rfl rfl ?_
    refine L_nil ?_
    refine W_block ?_
    have h0 : left - (x1.length : Int) = left - (x1.length : Int) - (bulks (x1.take 0) : Int) := by simp [bulks]
    rw [h0]
    refine W_loopC (σ := Nat) 0 (fun (k : Nat) => [(1, .int .i64 (left - (x1.length : Int) - (bulks (x1.take k) : Int))), (5, .int .i64 (k : Int))]) (fun (k : Nat) => []) (fun (k : Nat) => k ≤ x1.length ∧ 0 ≤ (left - (x1.length : Int) - (bulks (x1.take k) : Int))) (fun (k : Nat) => x1.length - k) [(0, _)] [] ?_ (Sub.cons rfl (Sub.cons rfl (Sub.cons rfl (Sub.nil _)))) (MSub.nil _) ?_
    · skip
      exact ⟨Nat.zero_le _, by simp [bulks]; omega⟩
    · skip
      rintro k ⟨hk, ht⟩
      refine W_weaken (l' := [(0, _), (1, _), (5, _)]) (Sub.cons rfl (Sub.cons rfl (Sub.cons rfl (Sub.nil _)))) (M' := []) (MSub.nil _) ?_
      refine W_seq ?_
      refine W_seq ?_
      refine W_region ?_
      refine L_move rfl rfl ?_
      refine L_move rfl rfl ?_
      refine L_lenS rfl rfl el73 ?_
      refine L_binV rfl rfl rfl bv_lss ?_
      refine L_nil ?_
      refine W_weaken (l' := [(0, _), (1, _), (5, _), (15, _)]) (Sub.cons rfl (Sub.cons rfl (Sub.cons rfl (Sub.cons rfl (Sub.nil _))))) (MSub.refl _) ?_
      refine W_cond rfl (fun hc5 => ?_) (fun hc5 => ?_)
      · skip
        have hk1 : k < x1.length := by simpa using hc5
        obtain ⟨g1, o1, rfl⟩ := rd_addr h1 hk1
        obtain ⟨u1, hu1⟩ := getEl hk1
        have hbs := bulks_take_succ hu1
        have hble := bulks_take_le x1 (k + 1)
        have hus : u1.size ≤ 9223372036854775807 := ho.2 _ (List.mem_map.2 ⟨u1, List.mem_of_getElem? hu1, rfl⟩)
        rw [bulk_str] at hbs
        refine W_skip ?_
        refine W_seq ?_
        refine W_block ?_
        refine W_seq ?_
        refine W_region ?_
        refine L_move rfl rfl ?_
        refine L_move rfl rfl ?_
        refine L_move rfl rfl ?_
        refine L_indexAddr rfl rfl rfl el73 rfl (by omega) ?_
        refine L_load0 rfl rfl (by first | exact RdC.blk (by repeat (first | exact List.Mem.head _ | apply List.Mem.tail)) | exact RdC.old (Cells.el h1 rfl hu1)) one9 rfl ?_
        refine L_lenT rfl rfl str9 ?_
        refine L_binV rfl rfl rfl (bv_subR (by unfold inR; omega)) ?_
        refine L_assign rfl rfl ?_
        refine L_nil ?_
        refine W_seq ?_
        refine W_region ?_
        refine L_move rfl rfl ?_
        refine L_binV rfl rfl rfl bv_lss ?_
        refine L_nil ?_
        refine W_weaken (l' := [(0, _), (1, _), (5, _), (26, _)]) (Sub.cons rfl (Sub.cons rfl (Sub.cons rfl (Sub.cons rfl (Sub.nil _))))) (MSub.refl _) ?_
        refine W_cond rfl (fun hc8 => ?_) (fun hc8 => ?_)
        · skip
          have hb1 : (left - (x1.length : Int) - (bulks (x1.take k) : Int)) - (u1.size : Int) < 0 := by simpa using hc8
          refine W_seq ?_
          refine W_region ?_
          refine L_assign rfl rfl ?_
          refine L_nil ?_
          refine W_ret ?_
          -- return 2 (R9)
          refine res1 rfl (ResOK.tmp rfl) ⟨?_, rfl⟩ (MSub.nil _)
          first
            | (rw [if_neg (by simp only [Int.natCast_add]; omega)]; done)
            | (rw [if_neg (by have := bulks_take_le x1 (k + 1); simp only [Int.natCast_add]; omega)]; done)
            | (have hk2 : x1.length ≤ k := by simpa using hc5
               rw [List.take_of_length_le hk2] at ht ⊢
               rw [if_pos (by simp only [Int.natCast_add]; omega)]; congr 1; simp only [Int.natCast_add]; omega)
        · skip
          have hb1 : ¬ ((left - (x1.length : Int) - (bulks (x1.take k) : Int)) - (u1.size : Int) < 0) := by simpa using hc8
          have hnx : (left - (x1.length : Int) - (bulks (x1.take k) : Int)) - (u1.size : Int) = left - (x1.length : Int) - (bulks (x1.take (k + 1)) : Int) := by rw [hbs]; omega
          rw [hnx]
          refine W_skip ?_
          refine W_region ?_
          refine L_move rfl rfl ?_
          refine L_binV rfl rfl rfl (bv_addR (by unfold inR; omega)) ?_
          refine L_assign rfl rfl ?_
          refine L_nil ?_
          refine ⟨k + 1, (Sub.cons rfl (Sub.cons rfl (Sub.cons rfl (Sub.nil _)))), (MSub.nil _), ?_, ?_⟩
          · skip
            exact ⟨by omega, by omega⟩
          · skip
            (try dsimp only); omega
      · skip
        refine W_exit ?_
        refine W_seq ?_
        refine W_region ?_
        refine L_move rfl rfl ?_
        refine L_assign rfl rfl ?_
        refine L_nil ?_
        refine W_ret ?_
        -- return 3 (R10)
        refine res1 rfl (ResOK.tmp rfl) ⟨?_, rfl⟩ (MSub.nil _)
        first
          | (rw [if_neg (by simp only [Int.natCast_add]; omega)]; done)
          | (rw [if_neg (by have := bulks_take_le x1 (k + 1); simp only [Int.natCast_add]; omega)]; done)
          | (have hk2 : x1.length ≤ k := by simpa using hc5
             rw [List.take_of_length_le hk2] at ht ⊢
             rw [if_pos (by simp only [Int.natCast_add]; omega)]; congr 1; simp only [Int.natCast_add]; omega)

theorem toStringS_spec (w : World) (t1 : TL ByteArray) (h1 : GT.rd w [] t1) (hb : Bk.bulk t1 ≤ 1048576) : Spec Tryd.prog 163 [t1.hdr].toArray w [] (fun v M => ∃ t2 : TL ByteArray, v = t2.hdr ∧ GT.dat t2 = GT.dat t1 ∧ M = [treeH t2]) := by
  obtain ⟨a1, c1, e1, x1, y1⟩ := t1
  rw [bulk_TL] at hb
  dsimp only [TL.hdr]
  refine Spec.intro Tryd.func163 rfl Tryd.ntmps163 rfl ?_
  refine W_seq ?_
  refine W_region ?_
  refine L_assign rfl rfl ?_
  refine L_nil ?_
  refine W_seq ?_
  refine W_region ?_
  refine L_move rfl rfl ?_
  refine L_lenS rfl rfl el73 ?_
  refine L_make (τ := ByteArray) ByteArray.empty rfl rfl rfl el73 rfl rfl (flat_str trivial) (by omega) (by unfold maxLen; omega) (fun g => ?_)
  refine L_assign rfl rfl ?_
  refine L_nil ?_
  refine W_seq ?_
  refine W_seq ?_
  refine W_region ?_
  refine L_assign rfl rfl ?_
  refine L_nil ?_
  refine W_block ?_
  refine W_loopC (σ := Nat × List ByteArray) (0, List.replicate x1.length ByteArray.empty) (fun (p : Nat × List ByteArray) => [(4, .int .i64 (p.1 : Int))]) (fun (p : Nat × List ByteArray) => [treeH (⟨some ⟨g, 0, none⟩, x1.length, 9, p.2, []⟩ : TL ByteArray)]) (fun (p : Nat × List ByteArray) => p.1 ≤ x1.length ∧ p.2.length = x1.length ∧ (p.2.take p.1).map GT.dat = (x1.take p.1).map GT.dat) (fun (p : Nat × List ByteArray) => x1.length - p.1) [(0, _), (3, _)] [] ?_ (Sub.cons rfl (Sub.cons rfl (Sub.cons rfl (Sub.nil _)))) (MSub.cons (by repeat (first | exact Pick.here _ | apply Pick.there)) (MSub.nil _)) ?_
  · skip
    exact ⟨Nat.zero_le _, by simp, by simp⟩
  · skip
    rintro ⟨k, cur⟩ ⟨hk, hlen, hdat⟩
    dsimp only at hk hlen hdat
    refine W_weaken (l' := [(0, _), (3, _), (4, _)]) (Sub.cons rfl (Sub.cons rfl (Sub.cons rfl (Sub.nil _)))) (M' := [_]) (MSub.cons (by repeat (first | exact Pick.here _ | apply Pick.there)) (MSub.nil _)) ?_
    refine W_seq ?_
    refine W_seq ?_
    refine W_region ?_
    refine L_move rfl rfl ?_
    refine L_move rfl rfl ?_
    refine L_lenS rfl rfl el73 ?_
    refine L_binV rfl rfl rfl bv_lss ?_
    refine L_nil ?_
    refine W_weaken (l' := [(0, _), (3, _), (4, _), (11, _)]) (Sub.cons rfl (Sub.cons rfl (Sub.cons rfl (Sub.cons rfl (Sub.nil _))))) (MSub.refl _) ?_
    refine W_cond rfl (fun hc3 => ?_) (fun hc3 => ?_)
    · skip
      have hk1 : k < x1.length := by simpa using hc3
      obtain ⟨g1, o1, rfl⟩ := rd_addr h1 hk1
      obtain ⟨u1, hu1⟩ := getEl hk1
      have hub : Bk.bulk u1 ≤ 1048576 := by have := bulk_mem (List.mem_of_getElem? hu1); omega
      refine W_skip ?_
      refine W_seq ?_
      refine W_block ?_
      refine W_region ?_
      refine L_move rfl rfl ?_
      refine L_move rfl rfl ?_
      refine L_move rfl rfl ?_
      refine L_move rfl rfl ?_
      refine L_indexAddr rfl rfl rfl el73 rfl (by omega) ?_
      refine L_load0 rfl rfl (by first | exact RdC.blk (by repeat (first | exact List.Mem.head _ | apply List.Mem.tail)) | exact RdC.old (Cells.el h1 rfl hu1)) one9 rfl ?_
      refine L_indexAddr rfl rfl rfl el73 rfl (by omega) ?_
      obtain ⟨u0, hu0⟩ := getEl (show k < cur.length by omega)
      refine L_storeElV u1 rfl rfl (by repeat (first | exact Pick.here _ | apply Pick.there)) rfl hu0 rfl (flat_str (h1.2.2.1 _ (List.mem_of_getElem? hu1))) (.inr ⟨one9, rfl⟩) ?_
      refine L_nil ?_
      refine W_region ?_
      refine L_move rfl rfl ?_
      refine L_binV rfl rfl rfl (bv_addR (by unfold inR; omega)) ?_
      refine L_assign rfl rfl ?_
      refine L_nil ?_
      refine ⟨(k + 1, cur.set k u1), (Sub.cons rfl (Sub.cons rfl (Sub.cons rfl (Sub.nil _)))), (MSub.cons (by repeat (first | exact Pick.here _ | apply Pick.there)) (MSub.nil _)), ?_, ?_⟩
      · skip
        exact ⟨by dsimp only; omega, by simpa using hlen, map_take_set GT.dat GT.dat hdat (by omega) hu1 rfl⟩
      · skip
        dsimp only; omega
    · skip
      refine W_exit ?_
      refine W_seq ?_
      refine W_region ?_
      refine L_move rfl rfl ?_
      refine L_assign rfl rfl ?_
      refine L_nil ?_
      refine W_ret ?_
      -- return 1 (R6)
      refine res1 rfl (ResOK.tmp rfl) ⟨⟨some ⟨g, 0, none⟩, x1.length, 9, cur, []⟩, ?_, ?_, rfl⟩ (MSub.cons (by repeat (first | exact Pick.here _ | apply Pick.there)) (MSub.nil _))
      · show _ = Value.slice _ cur.length _
        rw [hlen]
      · have hk2 : x1.length ≤ k := by simpa using hc3
        rw [List.take_of_length_le (by omega), List.take_of_length_le (by omega)] at hdat
        exact hdat

theorem eqCSnap_spec (w : World) (t1 t2 : T_CSnap) (h1 : GT.rd w [] t1) (h2 : GT.rd w [] t2) : Spec Tryd.prog 156 [.agg (GT.cells t1).toArray, .agg (GT.cells t2).toArray].toArray w [] (IsV (.bool (eqB (GT.dat t1) (GT.dat t2)))) := by
  obtain ⟨a1, a2, a3⟩ := t1
  obtain ⟨b1, b2, b3⟩ := t2
  change Spec _ _ [Value.agg #[.string a1, .string a2, a3.hdr], Value.agg #[.string b1, .string b2, b3.hdr]].toArray w [] _
  refine Spec.intro Tryd.func156 rfl Tryd.ntmps156 rfl ?_
  refine W_seq ?_
  refine W_region ?_
  refine L_box rfl rfl (fun bk2 => ?_)
  refine L_box rfl rfl (fun bk3 => ?_)
  refine L_assign rfl rfl ?_
  refine L_nil ?_
  refine W_seq ?_
  refine W_seq ?_
  refine W_region ?_
  refine L_fieldAddr rfl rfl fld75_0 ?_
  refine L_load rfl rfl (by first | exact RdC.blk (by repeat (first | exact List.Mem.head _ | apply List.Mem.tail))) one9 rfl ?_
  refine L_fieldAddr rfl rfl fld75_0 ?_
  refine L_load rfl rfl (by first | exact RdC.blk (by repeat (first | exact List.Mem.head _ | apply List.Mem.tail))) one9 rfl ?_
  refine L_binV rfl rfl rfl bv_sneq ?_
  refine L_nil ?_
  refine W_weaken (l' := [(2, _), (3, _), (9, _)]) (Sub.cons rfl (Sub.cons rfl (Sub.cons rfl (Sub.nil _)))) (MSub.refl _) ?_
  refine W_cond rfl (fun hc1 => ?_) (fun hc1 => ?_)
  · skip
    refine W_seq ?_
    refine W_region ?_
    refine L_assign rfl rfl ?_
    refine L_nil ?_
    refine W_ret ?_
    -- return 1 (R2)
    refine res1 rfl (ResOK.tmp rfl) ⟨?_, rfl⟩ (MSub.nil _)
    clear h1 h2
    first
      | (refine congrArg Value.bool (Eq.symm (eqB_false.2 fun e => ?_)); try simp only [dat_pair, dat_int, dat_bool, dat_str, Prod.mk.injEq] at e; simp_all; done)
      | (refine congrArg Value.bool (Eq.symm (eqB_true.2 ?_)); try simp only [dat_pair, dat_int, dat_bool, dat_str, Prod.mk.injEq]; simp_all; done)
  · skip
    refine W_skip ?_
    refine W_seq ?_
    refine W_seq ?_
    refine W_region ?_
    refine L_fieldAddr rfl rfl fld75_1 ?_
    refine L_load rfl rfl (by first | exact RdC.blk (by repeat (first | exact List.Mem.head _ | apply List.Mem.tail))) one9 rfl ?_
    refine L_fieldAddr rfl rfl fld75_1 ?_
    refine L_load rfl rfl (by first | exact RdC.blk (by repeat (first | exact List.Mem.head _ | apply List.Mem.tail))) one9 rfl ?_
    refine L_binV rfl rfl rfl bv_sneq ?_
    refine L_nil ?_
    refine W_weaken (l' := [(2, _), (3, _), (14, _)]) (Sub.cons rfl (Sub.cons rfl (Sub.cons rfl (Sub.nil _)))) (MSub.refl _) ?_
    refine W_cond rfl (fun hc3 => ?_) (fun hc3 => ?_)
    · skip
      refine W_seq ?_
      refine W_region ?_
      refine L_assign rfl rfl ?_
      refine L_nil ?_
      refine W_ret ?_
      -- return 2 (R4)
      refine res1 rfl (ResOK.tmp rfl) ⟨?_, rfl⟩ (MSub.nil _)
      clear h1 h2
      first
        | (refine congrArg Value.bool (Eq.symm (eqB_false.2 fun e => ?_)); try simp only [dat_pair, dat_int, dat_bool, dat_str, Prod.mk.injEq] at e; simp_all; done)
        | (refine congrArg Value.bool (Eq.symm (eqB_true.2 ?_)); try simp only [dat_pair, dat_int, dat_bool, dat_str, Prod.mk.injEq]; simp_all; done)
    · skip
      refine W_skip ?_
      refine W_seq ?_
      refine W_seq ?_
      refine W_region ?_
      refine L_fieldAddr rfl rfl fld75_2 ?_
      refine L_load rfl rfl (by first | exact RdC.blk (by repeat (first | exact List.Mem.head _ | apply List.Mem.tail))) one73 rfl ?_
      refine L_fieldAddr rfl rfl fld75_2 ?_
      refine L_load rfl rfl (by first | exact RdC.blk (by repeat (first | exact List.Mem.head _ | apply List.Mem.tail))) one73 rfl ?_
      refine L_callX rfl fn164 rfl (by exact fun w hw => eqStringS_spec w _ _ (rd_carry (h1.2.2) hw) (rd_carry (h2.2.2) hw)) ?_
      refine L_not rfl rfl ?_
      refine L_nil ?_
      refine W_weaken (l' := [(20, _)]) (Sub.cons rfl (Sub.nil _)) (MSub.refl _) ?_
      refine W_cond rfl (fun hc5 => ?_) (fun hc5 => ?_)
      · skip
        refine W_seq ?_
        refine W_region ?_
        refine L_assign rfl rfl ?_
        refine L_nil ?_
        refine W_ret ?_
        -- return 3 (R6)
        refine res1 rfl (ResOK.tmp rfl) ⟨?_, rfl⟩ (MSub.nil _)
        clear h1 h2
        first
          | (refine congrArg Value.bool (Eq.symm (eqB_false.2 fun e => ?_)); try simp only [dat_pair, dat_int, dat_bool, dat_str, Prod.mk.injEq] at e; simp_all; done)
          | (refine congrArg Value.bool (Eq.symm (eqB_true.2 ?_)); try simp only [dat_pair, dat_int, dat_bool, dat_str, Prod.mk.injEq]; simp_all; done)
      · skip
        refine W_skip ?_
        refine W_seq ?_
        refine W_region ?_
        refine L_assign rfl rfl ?_
        refine L_nil ?_
        refine W_ret ?_
        -- return 4 (R7)
        refine res1 rfl (ResOK.tmp rfl) ⟨?_, rfl⟩ (MSub.nil _)
        clear h1 h2
        first
          | (refine congrArg Value.bool (Eq.symm (eqB_false.2 fun e => ?_)); try simp only [dat_pair, dat_int, dat_bool, dat_str, Prod.mk.injEq] at e; simp_all; done)
          | (refine congrArg Value.bool (Eq.symm (eqB_true.2 ?_)); try simp only [dat_pair, dat_int, dat_bool, dat_str, Prod.mk.injEq]; simp_all; done)

theorem szCSnap_spec (w : World) (t1 : T_CSnap) (left : Int) (hl : 0 ≤ left) (hm : left ≤ 1048576) (h1 : GT.rd w [] t1) (ho : Ok.ok (GT.dat t1)) : Spec Tryd.prog 154 [.agg (GT.cells t1).toArray, .int .i64 left].toArray w [] (IsV (.int .i64 (if (Bk.bulk t1 : Int) ≤ left then left - (Bk.bulk t1 : Int) else -1))) := by
  obtain ⟨a1, a2, a3⟩ := t1
  have hs0 : a1.size ≤ 9223372036854775807 := ho.1
  have hs1 : a2.size ≤ 9223372036854775807 := ho.2.1
  change Spec _ _ [Value.agg #[.string a1, .string a2, a3.hdr], .int .i64 left].toArray w [] _
  refine Spec.intro Tryd.func154 rfl Tryd.ntmps154 rfl ?_
  refine W_seq ?_
  refine W_region ?_
  refine L_box rfl rfl (fun bk2 => ?_)
  refine L_assign rfl rfl ?_
  refine L_nil ?_
  refine W_seq ?_
  refine W_region ?_
  refine L_move rfl rfl ?_
  refine L_fieldAddr rfl rfl fld188_0 ?_
  refine L_load rfl rfl (by first | exact RdC.blk (by repeat (first | exact List.Mem.head _ | apply List.Mem.tail))) one9 rfl ?_
  refine L_lenT rfl rfl str9 ?_
  refine L_binV rfl rfl rfl (bv_subR (by unfold inR; omega)) ?_
  refine L_assign rfl rfl ?_
  refine L_nil ?_
  refine W_seq ?_
  refine W_seq ?_
  refine W_region ?_
  refine L_move rfl rfl ?_
  refine L_binV rfl rfl rfl bv_lss ?_
  refine L_nil ?_
  refine W_weaken (l' := [(1, _), (2, _), (11, _)]) (Sub.cons rfl (Sub.cons rfl (Sub.cons rfl (Sub.nil _)))) (MSub.refl _) ?_
  refine W_cond rfl (fun hc2 => ?_) (fun hc2 => ?_)
  · skip
    have hb0 : left - (a1.size : Int) < 0 := by simpa using hc2
    refine W_seq ?_
    refine W_region ?_
    refine L_assign rfl rfl ?_
    refine L_nil ?_
    refine W_ret ?_
    -- return 1 (R3)
    refine res1 rfl (ResOK.tmp rfl) ⟨?_, rfl⟩ (MSub.nil _)
    try simp only [bulk_pair, bulk_int, bulk_bool, bulk_str, Int.natCast_add, Int.natCast_zero] at *
    all_goals first
      | rfl
      | (rw [if_pos (by omega)] <;> (congr 1 <;> omega))
      | (rw [if_neg (by omega)])
  · skip
    have hb0 : ¬ (left - (a1.size : Int) < 0) := by simpa using hc2
    refine W_skip ?_
    refine W_seq ?_
    refine W_region ?_
    refine L_move rfl rfl ?_
    refine L_fieldAddr rfl rfl fld188_1 ?_
    refine L_load rfl rfl (by first | exact RdC.blk (by repeat (first | exact List.Mem.head _ | apply List.Mem.tail))) one9 rfl ?_
    refine L_lenT rfl rfl str9 ?_
    refine L_binV rfl rfl rfl (bv_subR (by unfold inR; omega)) ?_
    refine L_assign rfl rfl ?_
    refine L_nil ?_
    refine W_seq ?_
    refine W_seq ?_
    refine W_region ?_
    refine L_move rfl rfl ?_
    refine L_binV rfl rfl rfl bv_lss ?_
    refine L_nil ?_
    refine W_weaken (l' := [(1, _), (2, _), (18, _)]) (Sub.cons rfl (Sub.cons rfl (Sub.cons rfl (Sub.nil _)))) (MSub.refl _) ?_
    refine W_cond rfl (fun hc5 => ?_) (fun hc5 => ?_)
    · skip
      have hb1 : left - (a1.size : Int) - (a2.size : Int) < 0 := by simpa using hc5
      refine W_seq ?_
      refine W_region ?_
      refine L_assign rfl rfl ?_
      refine L_nil ?_
      refine W_ret ?_
      -- return 2 (R6)
      refine res1 rfl (ResOK.tmp rfl) ⟨?_, rfl⟩ (MSub.nil _)
      try simp only [bulk_pair, bulk_int, bulk_bool, bulk_str, Int.natCast_add, Int.natCast_zero] at *
      all_goals first
        | rfl
        | (rw [if_pos (by omega)] <;> (congr 1 <;> omega))
        | (rw [if_neg (by omega)])
    · skip
      have hb1 : ¬ (left - (a1.size : Int) - (a2.size : Int) < 0) := by simpa using hc5
      refine W_skip ?_
      refine W_seq ?_
      refine W_region ?_
      refine L_fieldAddr rfl rfl fld188_2 ?_
      refine L_load rfl rfl (by first | exact RdC.blk (by repeat (first | exact List.Mem.head _ | apply List.Mem.tail))) one73 rfl ?_
      refine L_move rfl rfl ?_
      refine L_callX rfl fn162 rfl (by exact fun w hw => szStringS_spec w _ (left - (a1.size : Int) - (a2.size : Int)) (by omega) (by omega) (rd_carry (h1.2.2) hw) ho.2.2) ?_
      refine L_assign rfl rfl ?_
      refine L_nil ?_
      refine W_seq ?_
      refine W_seq ?_
      refine W_region ?_
      refine L_move rfl rfl ?_
      refine L_binV rfl rfl rfl bv_lss ?_
      refine L_nil ?_
      refine W_weaken (l' := [(1, _), (24, _)]) (Sub.cons rfl (Sub.cons rfl (Sub.nil _))) (MSub.refl _) ?_
      refine W_cond rfl (fun hc8 => ?_) (fun hc8 => ?_)
      · skip
        have hb2 : ¬ ((Bk.bulk a3 : Int) ≤ left - (a1.size : Int) - (a2.size : Int)) := by
          intro hn
          rw [if_pos hn] at hc8; simp at hc8; omega
        refine W_seq ?_
        refine W_region ?_
        refine L_assign rfl rfl ?_
        refine L_nil ?_
        refine W_ret ?_
        -- return 3 (R9)
        refine res1 rfl (ResOK.tmp rfl) ⟨?_, rfl⟩ (MSub.nil _)
        try simp only [bulk_pair, bulk_int, bulk_bool, bulk_str, Int.natCast_add, Int.natCast_zero] at *
        all_goals first
          | rfl
          | (rw [if_pos (by omega)] <;> (congr 1 <;> omega))
          | (rw [if_neg (by omega)])
      · skip
        have hb2 : (Bk.bulk a3 : Int) ≤ left - (a1.size : Int) - (a2.size : Int) := by
          rcases Int.decLt (left - (a1.size : Int) - (a2.size : Int)) (Bk.bulk a3 : Int) with hn | hn
          · omega
          · rw [if_neg (by omega)] at hc8; simp at hc8
        rw [if_pos hb2]
        refine W_skip ?_
        refine W_seq ?_
        refine W_region ?_
        refine L_move rfl rfl ?_
        refine L_assign rfl rfl ?_
        refine L_nil ?_
        refine W_ret ?_
        -- return 4 (R10)
        refine res1 rfl (ResOK.tmp rfl) ⟨?_, rfl⟩ (MSub.nil _)
        try simp only [bulk_pair, bulk_int, bulk_bool, bulk_str, Int.natCast_add, Int.natCast_zero] at *
        all_goals first
          | rfl
          | (rw [if_pos (by omega)] <;> (congr 1 <;> omega))
          | (rw [if_neg (by omega)])

theorem toCSnap_spec (w : World) (t1 : T_CSnap) (h1 : GT.rd w [] t1) (hb : Bk.bulk t1 ≤ 1048576) : Spec Tryd.prog 155 [.agg (GT.cells t1).toArray].toArray w [] (fun v M => ∃ t2 : T_CSnap, v = .agg (GT.cells t2).toArray ∧ GT.dat t2 = GT.dat t1 ∧ M = [treeH t2]) := by
  obtain ⟨a1, a2, a3⟩ := t1
  have hbk_2 : Bk.bulk a3 ≤ 1048576 := by (try simp only [bulk_pair, bulk_int, bulk_bool, bulk_str] at hb ⊢); omega
  change Spec _ _ [Value.agg #[.string a1, .string a2, a3.hdr]].toArray w [] _
  refine Spec.intro Tryd.func155 rfl Tryd.ntmps155 rfl ?_
  refine W_seq ?_
  refine W_region ?_
  refine L_box rfl rfl (fun bk1 => ?_)
  refine L_alloc rfl zero75 (fun bk2 => ?_)
  refine L_nil ?_
  refine W_seq ?_
  refine W_region ?_
  refine L_alloc rfl zero75 (fun bk3 => ?_)
  refine L_nil ?_
  refine W_seq ?_
  refine W_region ?_
  refine L_fieldAddr rfl rfl fld188_0 ?_
  refine L_load rfl rfl (by first | exact RdC.blk (by repeat (first | exact List.Mem.head _ | apply List.Mem.tail))) one9 rfl ?_
  refine L_fieldAddr rfl rfl fld75_0 ?_
  refine L_store rfl rfl (by repeat (first | exact Pick.here _ | apply Pick.there)) one9 rfl rfl ?_
  refine L_nil ?_
  refine W_seq ?_
  refine W_region ?_
  refine L_fieldAddr rfl rfl fld188_1 ?_
  refine L_load rfl rfl (by first | exact RdC.blk (by repeat (first | exact List.Mem.head _ | apply List.Mem.tail))) one9 rfl ?_
  refine L_fieldAddr rfl rfl fld75_1 ?_
  refine L_store rfl rfl (by repeat (first | exact Pick.here _ | apply Pick.there)) one9 rfl rfl ?_
  refine L_nil ?_
  refine W_seq ?_
  refine W_region ?_
  refine L_fieldAddr rfl rfl fld188_2 ?_
  refine L_load rfl rfl (by first | exact RdC.blk (by repeat (first | exact List.Mem.head _ | apply List.Mem.tail))) one73 rfl ?_
  refine L_callR rfl fn163 rfl (by exact fun w hw => toStringS_spec w _ (rd_carry (h1.2.2) hw) hbk_2) ?_
  rintro v M1 ⟨n3t, hv, hd2, rfl⟩
  subst hv
  simp only [List.cons_append, List.nil_append]
  refine L_fieldAddr rfl rfl fld75_2 ?_
  refine L_store rfl rfl (by repeat (first | exact Pick.here _ | apply Pick.there)) one73 rfl rfl ?_
  refine L_nil ?_
  refine W_seq ?_
  refine W_region ?_
  refine L_loadW rfl rfl (by first | exact RdC.blk (by repeat (first | exact List.Mem.head _ | apply List.Mem.tail))) (by exact agg75) ?_
  refine L_storeW rfl rfl (by repeat (first | exact Pick.here _ | apply Pick.there)) (by exact agg75) (by rfl) (by first | (simp [Value.oneCell', TL.hdr]; done) | (simp [Value.oneCell', TL.hdr, Value.cells]; done) | exact fun v hv => GT.one _ v hv) ?_
  refine L_nil ?_
  refine W_conv (M' := treeH ((a1, a2, n3t) : T_CSnap) :: _) (fun w h => (tree_snd (flat_str (h1.1)) (tree_snd (flat_str (h1.2.1)) (frontPick (by repeat (first | exact Pick.here _ | apply Pick.there)) h)))) ?_
  refine W_ret ?_
  -- return 1 (R5)
  refine res1 rfl (ResOK.cell rfl (by repeat (first | exact List.Mem.head _ | apply List.Mem.tail)) (by exact agg75)) ⟨(a1, a2, n3t), rfl, by simp only [dat_pair, hd2], rfl⟩ (MSub.cons (by repeat (first | exact Pick.here _ | apply Pick.there)) (MSub.nil _))

theorem eqCSnapS_spec (w : World) (t1 t2 : TL T_CSnap) (h1 : GT.rd w [] t1) (h2 : GT.rd w [] t2) : Spec Tryd.prog 141 [t1.hdr, t2.hdr].toArray w [] (IsV (.bool (eqB (GT.dat t1) (GT.dat t2)))) := by
  obtain ⟨a1, c1, e1, x1, y1⟩ := t1
  obtain ⟨a2, c2, e2, x2, y2⟩ := t2
  have hm1 : x1.length ≤ 9223372036854775807 := rd_len h1
  have hm2 : x2.length ≤ 9223372036854775807 := rd_len h2
  dsimp only [TL.hdr]
  refine Spec.intro Tryd.func141 rfl Tryd.ntmps141 rfl ?_
  refine W_seq ?_
  refine W_region ?_
  refine L_assign rfl rfl ?_
  refine L_nil ?_
  refine W_seq ?_
  refine W_seq ?_
  refine W_region ?_
  refine L_move rfl rfl ?_
  refine L_lenS rfl rfl el70 ?_
  refine L_move rfl rfl ?_
  refine L_lenS rfl rfl el70 ?_
  refine L_binV rfl rfl rfl bv_neq ?_
  refine L_nil ?_
  refine W_weaken (l' := [(0, _), (1, _), (10, _)]) (Sub.cons rfl (Sub.cons rfl (Sub.cons rfl (Sub.nil _)))) (MSub.refl _) ?_
  refine W_cond rfl (fun hc1 => ?_) (fun hc1 => ?_)
  · skip
    refine W_seq ?_
    refine W_region ?_
    refine L_assign rfl rfl ?_
    refine L_nil ?_
    refine W_ret ?_
    -- return 1 (R2)
    refine res1 rfl (ResOK.tmp rfl) ⟨?_, rfl⟩ (MSub.nil _)
    refine congrArg Value.bool (Eq.symm (eqB_false.2 fun e => ?_))
    simp at hc1
    exact hc1 (by have := congrArg List.length e; simp [dat_TL] at this; omega)
  · skip
    have hl : x1.length = x2.length := by simp at hc1; omega
    refine W_skip ?_
    refine W_seq ?_
    refine W_seq ?_
    refine W_region ?_
    refine L_assign rfl rfl ?_
    refine L_nil ?_
    refine W_block ?_
    refine W_loopC (σ := Nat) 0 (fun (k : Nat) => [(5, .int .i64 (k : Int))]) (fun (k : Nat) => []) (fun (k : Nat) => k ≤ x1.length ∧ (x1.map GT.dat).take k = (x2.map GT.dat).take k) (fun (k : Nat) => x1.length - k) [(0, _), (1, _)] [] ?_ (Sub.cons rfl (Sub.cons rfl (Sub.cons rfl (Sub.nil _)))) (MSub.nil _) ?_
    · skip
      exact ⟨Nat.zero_le _, rfl⟩
    · skip
      rintro k ⟨hk, ht⟩
      refine W_weaken (l' := [(0, _), (1, _), (5, _)]) (Sub.cons rfl (Sub.cons rfl (Sub.cons rfl (Sub.nil _)))) (M' := []) (MSub.nil _) ?_
      refine W_seq ?_
      refine W_seq ?_
      refine W_region ?_
      refine L_move rfl rfl ?_
      refine L_move rfl rfl ?_
      refine L_lenS rfl rfl el70 ?_
      refine L_binV rfl rfl rfl bv_lss ?_
      refine L_nil ?_
      refine W_weaken (l' := [(0, _), (1, _), (5, _), (14, _)]) (Sub.cons rfl (Sub.cons rfl (Sub.cons rfl (Sub.cons rfl (Sub.nil _))))) (MSub.refl _) ?_
      refine W_cond rfl (fun hc4 => ?_) (fun hc4 => ?_)
      · skip
        have hk1 : k < x1.length := by simpa using hc4
        obtain ⟨g1, o1, rfl⟩ := rd_addr h1 hk1
        obtain ⟨g2, o2, rfl⟩ := rd_addr (k := k) h2 (show k < x2.length by omega)
        obtain ⟨u1, hu1⟩ := getEl hk1
        obtain ⟨u2, hu2⟩ := getEl (show k < x2.length by omega)
        refine W_skip ?_
        refine W_seq ?_
        refine W_block ?_
        refine W_seq ?_
        refine W_D0 [26] mix (by kernel_rfl) rfl ?_
        refine D_move GC.none (OpV.t rfl) ?_
        refine D_move GC.none (OpV.t rfl) ?_
        refine D_indexAddr _ GC.none (OpV.t rfl) (OpV.t rfl) el70 (fun hg => ⟨rfl, by (try dsimp only); omega⟩) ?_
        refine D_loadW GC.none (OpV.t rfl) (fun hg => (by first | exact RdC.blk (by repeat (first | exact List.Mem.head _ | apply List.Mem.tail)) | exact RdC.old (Cells.el h1 rfl hu1) | exact RdC.old (Cells.el h2 rfl hu2))) (by exact agg75) ?_
        refine D_move GC.none (OpV.t rfl) ?_
        refine D_move GC.none (OpV.t rfl) ?_
        refine D_indexAddr _ GC.none (OpV.t rfl) (OpV.t rfl) el70 (fun hg => ⟨rfl, by (try dsimp only); omega⟩) ?_
        refine D_loadW GC.none (OpV.t rfl) (fun hg => (by first | exact RdC.blk (by repeat (first | exact List.Mem.head _ | apply List.Mem.tail)) | exact RdC.old (Cells.el h1 rfl hu1) | exact RdC.old (Cells.el h2 rfl hu2))) (by exact agg75) ?_
        refine D_callX GC.none fn156 (OpVs.cons (OpV.t rfl) (OpVs.cons (OpV.t rfl) (OpVs.nil))) (by exact fun hg w F hF hM => (fun w hw => eqCSnap_spec w _ _ (rd_carry (h1.2.2.1 _ (List.mem_of_getElem? hu1)) hw) (rd_carry (h2.2.2.1 _ (List.mem_of_getElem? hu2)) hw)) w hF) ?_
        refine D_not GC.none (OpV.t rfl) ?_
        refine DV_nil ?_
        refine Give_is rfl rfl ?_
        refine Give_drop rfl ?_
        refine Give_drop rfl ?_
        refine Give_drop rfl ?_
        refine Give_drop rfl ?_
        refine Give_drop rfl ?_
        refine Give_drop rfl ?_
        refine Give_drop rfl ?_
        refine Give_drop rfl ?_
        refine Give_drop rfl ?_
        refine Give_nil ?_
        refine W_weaken (l' := [(0, _), (1, _), (5, _), (26, _)]) (Sub.cons rfl (Sub.cons rfl (Sub.cons rfl (Sub.cons rfl (Sub.nil _))))) (MSub.refl _) ?_
        refine W_cond rfl (fun hc6 => ?_) (fun hc6 => ?_)
        · skip
          refine W_seq ?_
          refine W_region ?_
          refine L_assign rfl rfl ?_
          refine L_nil ?_
          refine W_ret ?_
          -- return 2 (R7)
          refine res1 rfl (ResOK.tmp rfl) ⟨?_, rfl⟩ (MSub.nil _)
          refine congrArg Value.bool (Eq.symm (eqB_false.2 fun e => ?_))
          simp at hc6
          replace e : x1.map GT.dat = x2.map GT.dat := e
          have e2 := congrArg (fun l => l[k]?) e
          simp only [List.getElem?_map, hu1, hu2, Option.map_some, Option.some.injEq] at e2
          exact hc6 (by simpa [dat_int, dat_str, dat_bool] using e2)
        · skip
          refine W_skip ?_
          refine W_region ?_
          refine L_move rfl rfl ?_
          refine L_binV rfl rfl rfl (bv_addR (by unfold inR; omega)) ?_
          refine L_assign rfl rfl ?_
          refine L_nil ?_
          refine ⟨k + 1, (Sub.cons rfl (Sub.cons rfl (Sub.cons rfl (Sub.nil _)))), (MSub.nil _), ?_, ?_⟩
          · skip
            exact ⟨by omega, take_succ_eq ht (by rw [List.getElem?_map, hu1]; rfl) (by rw [List.getElem?_map, hu2]; rfl) (by simpa [dat_int, dat_str, dat_bool] using hc6)⟩
          · skip
            (try dsimp only); omega
      · skip
        refine W_exit ?_
        refine W_seq ?_
        refine W_region ?_
        refine L_assign rfl rfl ?_
        refine L_nil ?_
        refine W_ret ?_
        -- return 3 (R8)
        refine res1 rfl (ResOK.tmp rfl) ⟨?_, rfl⟩ (MSub.nil _)
        refine congrArg Value.bool (Eq.symm (eqB_true.2 ?_))
        have hk2 : x1.length ≤ k := by simpa using hc4
        have h3 := ht
        rw [List.take_of_length_le (by simp; omega), List.take_of_length_le (by simp; omega)] at h3
        exact h3

theorem szCSnapS_spec (w : World) (t1 : TL T_CSnap) (left : Int) (hl : 0 ≤ left) (hm : left ≤ 1048576) (h1 : GT.rd w [] t1) (ho : Ok.ok (GT.dat t1)) : Spec Tryd.prog 137 [t1.hdr, .int .i64 left].toArray w [] (IsV (.int .i64 (if (Bk.bulk t1 : Int) ≤ left then left - (Bk.bulk t1 : Int) else -1))) := by
  obtain ⟨a1, c1, e1, x1, y1⟩ := t1
  have hm1 : x1.length ≤ 9223372036854775807 := rd_len h1
  rw [bulk_TL]
  dsimp only [TL.hdr]
  refine Spec.intro Tryd.func137 rfl Tryd.ntmps137 rfl ?_
  refine W_seq ?_
  refine W_region ?_
  refine L_assign rfl rfl ?_
  refine L_nil ?_
  refine W_seq ?_
  refine W_region ?_
  refine L_move rfl rfl ?_
  refine L_move rfl rfl ?_
  refine L_lenS rfl rfl el130 ?_
  refine L_binV rfl rfl rfl (bv_subR (by unfold inR; omega)) ?_
  refine L_assign rfl rfl ?_
  refine L_nil ?_
  refine W_seq ?_
  refine W_seq ?_
  refine W_region ?_
  refine L_move rfl rfl ?_
  refine L_binV rfl rfl rfl bv_lss ?_
  refine L_nil ?_
  refine W_weaken (l' := [(0, _), (1, _), (11, _)]) (Sub.cons rfl (Sub.cons rfl (Sub.cons rfl (Sub.nil _)))) (MSub.refl _) ?_
  refine W_cond rfl (fun hc2 => ?_) (fun hc2 => ?_)
  · skip
    have hb0 : left - (x1.length : Int) < 0 := by simpa using hc2
    refine W_seq ?_
    refine W_region ?_
    refine L_assign rfl rfl ?_
    refine L_nil ?_
    refine W_ret ?_
    -- return 1 (R3)
    refine res1 rfl (ResOK.tmp rfl) ⟨?_, rfl⟩ (MSub.nil _)
    first
      | (rw [if_neg (by simp only [Int.natCast_add]; omega)]; done)
      | (rw [if_neg (by have := bulks_take_le x1 (k + 1); simp only [Int.natCast_add]; omega)]; done)
      | (have hk2 : x1.length ≤ k := by simpa using hc5
         rw [List.take_of_length_le hk2] at ht ⊢
         rw [if_pos (by simp only [Int.natCast_add]; omega)]; congr 1; simp only [Int.natCast_add]; omega)
  · skip
    have hb0 : ¬ (left - (x1.length : Int) < 0) := by simpa using hc2
    refine W_skip ?_
    refine W_seq ?_
    refine W_seq ?_
    refine W_region ?_
    refine L_assign rfl rfl ?_
    refine L_nil ?_
    refine W_block ?_
    have h0 : left - (x1.length : Int) = left - (x1.length : Int) - (bulks (x1.take 0) : Int) := by simp [bulks]
    rw [h0]
    refine W_loopC (σ := Nat) 0 (fun (k : Nat) => [(1, .int .i64 (left - (x1.length : Int) - (bulks (x1.take k) : Int))), (5, .int .i64 (k : Int))]) (fun (k : Nat) => []) (fun (k : Nat) => k ≤ x1.length ∧ 0 ≤ (left - (x1.length : Int) - (bulks (x1.take k) : Int))) (fun (k : Nat) => x1.length - k) [(0, _)] [] ?_ (Sub.cons rfl (Sub.cons rfl (Sub.cons rfl (Sub.nil _)))) (MSub.nil _) ?_
    · skip
      exact ⟨Nat.zero_le _, by simp [bulks]; omega⟩
    · skip
      rintro k ⟨hk, ht⟩
      refine W_weaken (l' := [(0, _), (1, _), (5, _)]) (Sub.cons rfl (Sub.cons rfl (Sub.cons rfl (Sub.nil _)))) (M' := []) (MSub.nil _) ?_
      refine W_seq ?_
      refine W_seq ?_
      refine W_region ?_
      refine L_move rfl rfl ?_
      refine L_move rfl rfl ?_
      refine L_lenS rfl rfl el130 ?_
      refine L_binV rfl rfl rfl bv_lss ?_
      refine L_nil ?_
      refine W_weaken (l' := [(0, _), (1, _), (5, _), (15, _)]) (Sub.cons rfl (Sub.cons rfl (Sub.cons rfl (Sub.cons rfl (Sub.nil _))))) (MSub.refl _) ?_
      refine W_cond rfl (fun hc5 => ?_) (fun hc5 => ?_)
      · skip
        have hk1 : k < x1.length := by simpa using hc5
        obtain ⟨g1, o1, rfl⟩ := rd_addr h1 hk1
        obtain ⟨u1, hu1⟩ := getEl hk1
        have hbs := bulks_take_succ hu1
        have hble := bulks_take_le x1 (k + 1)
        refine W_skip ?_
        refine W_seq ?_
        refine W_block ?_
        refine W_seq ?_
        refine W_region ?_
        refine L_move rfl rfl ?_
        refine L_move rfl rfl ?_
        refine L_indexAddr rfl rfl rfl el130 rfl (by omega) ?_
        refine L_loadW rfl rfl (by first | exact RdC.blk (by repeat (first | exact List.Mem.head _ | apply List.Mem.tail)) | exact RdC.old (Cells.el h1 rfl hu1)) (by exact agg188) ?_
        refine L_move rfl rfl ?_
        refine L_callX rfl fn154 rfl (by exact fun w hw => szCSnap_spec w _ _ (by omega) (by omega) (rd_carry (h1.2.2.1 _ (List.mem_of_getElem? hu1)) hw) (ho.2 _ (List.mem_map.2 ⟨u1, List.mem_of_getElem? hu1, rfl⟩))) ?_
        refine L_assign rfl rfl ?_
        refine L_nil ?_
        refine W_seq ?_
        refine W_region ?_
        refine L_move rfl rfl ?_
        refine L_binV rfl rfl rfl bv_lss ?_
        refine L_nil ?_
        refine W_weaken (l' := [(0, _), (1, _), (5, _), (25, _)]) (Sub.cons rfl (Sub.cons rfl (Sub.cons rfl (Sub.cons rfl (Sub.nil _))))) (MSub.refl _) ?_
        refine W_cond rfl (fun hc8 => ?_) (fun hc8 => ?_)
        · skip
          have hb1 : ¬ ((Bk.bulk u1 : Int) ≤ (left - (x1.length : Int) - (bulks (x1.take k) : Int))) := by
            intro hn
            rw [if_pos hn] at hc8; simp at hc8; omega
          refine W_seq ?_
          refine W_region ?_
          refine L_assign rfl rfl ?_
          refine L_nil ?_
          refine W_ret ?_
          -- return 2 (R9)
          refine res1 rfl (ResOK.tmp rfl) ⟨?_, rfl⟩ (MSub.nil _)
          first
            | (rw [if_neg (by simp only [Int.natCast_add]; omega)]; done)
            | (rw [if_neg (by have := bulks_take_le x1 (k + 1); simp only [Int.natCast_add]; omega)]; done)
            | (have hk2 : x1.length ≤ k := by simpa using hc5
               rw [List.take_of_length_le hk2] at ht ⊢
               rw [if_pos (by simp only [Int.natCast_add]; omega)]; congr 1; simp only [Int.natCast_add]; omega)
        · skip
          have hb1 : (Bk.bulk u1 : Int) ≤ (left - (x1.length : Int) - (bulks (x1.take k) : Int)) := by
            rcases Int.decLt (left - (x1.length : Int) - (bulks (x1.take k) : Int)) (Bk.bulk u1 : Int) with hn | hn
            · omega
            · rw [if_neg (by omega)] at hc8; simp at hc8
          rw [if_pos hb1]
          have hnx : (left - (x1.length : Int) - (bulks (x1.take k) : Int)) - (Bk.bulk u1 : Int) = left - (x1.length : Int) - (bulks (x1.take (k + 1)) : Int) := by rw [hbs]; omega
          rw [hnx]
          refine W_skip ?_
          refine W_region ?_
          refine L_move rfl rfl ?_
          refine L_binV rfl rfl rfl (bv_addR (by unfold inR; omega)) ?_
          refine L_assign rfl rfl ?_
          refine L_nil ?_
          refine ⟨k + 1, (Sub.cons rfl (Sub.cons rfl (Sub.cons rfl (Sub.nil _)))), (MSub.nil _), ?_, ?_⟩
          · skip
            exact ⟨by omega, by omega⟩
          · skip
            (try dsimp only); omega
      · skip
        refine W_exit ?_
        refine W_seq ?_
        refine W_region ?_
        refine L_move rfl rfl ?_
        refine L_assign rfl rfl ?_
        refine L_nil ?_
        refine W_ret ?_
        -- return 3 (R10)
        refine res1 rfl (ResOK.tmp rfl) ⟨?_, rfl⟩ (MSub.nil _)
        first
          | (rw [if_neg (by simp only [Int.natCast_add]; omega)]; done)
          | (rw [if_neg (by have := bulks_take_le x1 (k + 1); simp only [Int.natCast_add]; omega)]; done)
          | (have hk2 : x1.length ≤ k := by simpa using hc5
             rw [List.take_of_length_le hk2] at ht ⊢
             rw [if_pos (by simp only [Int.natCast_add]; omega)]; congr 1; simp only [Int.natCast_add]; omega)

theorem toCSnapS_spec (w : World) (t1 : TL T_CSnap) (h1 : GT.rd w [] t1) (hb : Bk.bulk t1 ≤ 1048576) : Spec Tryd.prog 138 [t1.hdr].toArray w [] (fun v M => ∃ t2 : TL T_CSnap, v = t2.hdr ∧ GT.dat t2 = GT.dat t1 ∧ M = [treeH t2]) := by
  obtain ⟨a1, c1, e1, x1, y1⟩ := t1
  rw [bulk_TL] at hb
  dsimp only [TL.hdr]
  refine Spec.intro Tryd.func138 rfl Tryd.ntmps138 rfl ?_
  refine W_seq ?_
  refine W_region ?_
  refine L_assign rfl rfl ?_
  refine L_nil ?_
  refine W_seq ?_
  refine W_region ?_
  refine L_move rfl rfl ?_
  refine L_lenS rfl rfl el130 ?_
  refine L_make (τ := T_CSnap) (ByteArray.empty, ByteArray.empty, (TL.nil ByteArray 0)) rfl rfl rfl el70 rfl rfl (flat_pair (flat_str trivial) (flat_pair (flat_str trivial) (flat_nil 0))) (by omega) (by unfold maxLen; omega) (fun g => ?_)
  refine L_assign rfl rfl ?_
  refine L_nil ?_
  refine W_seq ?_
  refine W_seq ?_
  refine W_region ?_
  refine L_assign rfl rfl ?_
  refine L_nil ?_
  refine W_block ?_
  refine W_loopC (σ := Nat × List T_CSnap) (0, List.replicate x1.length (ByteArray.empty, ByteArray.empty, (TL.nil ByteArray 0))) (fun (p : Nat × List T_CSnap) => [(4, .int .i64 (p.1 : Int))]) (fun (p : Nat × List T_CSnap) => [treeH (⟨some ⟨g, 0, none⟩, x1.length, 75, p.2, []⟩ : TL T_CSnap)]) (fun (p : Nat × List T_CSnap) => p.1 ≤ x1.length ∧ p.2.length = x1.length ∧ (p.2.take p.1).map GT.dat = (x1.take p.1).map GT.dat) (fun (p : Nat × List T_CSnap) => x1.length - p.1) [(0, _), (3, _)] [] ?_ (Sub.cons rfl (Sub.cons rfl (Sub.cons rfl (Sub.nil _)))) (MSub.cons (by repeat (first | exact Pick.here _ | apply Pick.there)) (MSub.nil _)) ?_
  · skip
    exact ⟨Nat.zero_le _, by simp, by simp⟩
  · skip
    rintro ⟨k, cur⟩ ⟨hk, hlen, hdat⟩
    dsimp only at hk hlen hdat
    refine W_weaken (l' := [(0, _), (3, _), (4, _)]) (Sub.cons rfl (Sub.cons rfl (Sub.cons rfl (Sub.nil _)))) (M' := [_]) (MSub.cons (by repeat (first | exact Pick.here _ | apply Pick.there)) (MSub.nil _)) ?_
    refine W_seq ?_
    refine W_seq ?_
    refine W_region ?_
    refine L_move rfl rfl ?_
    refine L_move rfl rfl ?_
    refine L_lenS rfl rfl el130 ?_
    refine L_binV rfl rfl rfl bv_lss ?_
    refine L_nil ?_
    refine W_weaken (l' := [(0, _), (3, _), (4, _), (11, _)]) (Sub.cons rfl (Sub.cons rfl (Sub.cons rfl (Sub.cons rfl (Sub.nil _))))) (MSub.refl _) ?_
    refine W_cond rfl (fun hc3 => ?_) (fun hc3 => ?_)
    · skip
      have hk1 : k < x1.length := by simpa using hc3
      obtain ⟨g1, o1, rfl⟩ := rd_addr h1 hk1
      obtain ⟨u1, hu1⟩ := getEl hk1
      have hub : Bk.bulk u1 ≤ 1048576 := by have := bulk_mem (List.mem_of_getElem? hu1); omega
      refine W_skip ?_
      refine W_seq ?_
      refine W_block ?_
      refine W_region ?_
      refine L_move rfl rfl ?_
      refine L_move rfl rfl ?_
      refine L_move rfl rfl ?_
      refine L_move rfl rfl ?_
      refine L_indexAddr rfl rfl rfl el130 rfl (by omega) ?_
      refine L_loadW rfl rfl (by first | exact RdC.blk (by repeat (first | exact List.Mem.head _ | apply List.Mem.tail)) | exact RdC.old (Cells.el h1 rfl hu1)) (by exact agg188) ?_
      refine L_callR rfl fn155 rfl (by exact fun w hw => toCSnap_spec w _ (rd_carry (h1.2.2.1 _ (List.mem_of_getElem? hu1)) hw) hub) ?_
      rintro v M1 ⟨u2, hv, hd, rfl⟩
      subst hv
      simp only [List.cons_append, List.nil_append]
      refine L_indexAddr rfl rfl rfl el70 rfl (by omega) ?_
      obtain ⟨u0, hu0⟩ := getEl (show k < cur.length by omega)
      refine L_storeEl u2 rfl rfl (by repeat (first | exact Pick.here _ | apply Pick.there)) rfl hu0 rfl (by repeat (first | exact Pick.here _ | apply Pick.there)) (.inl agg75) ?_
      refine L_nil ?_
      refine W_region ?_
      refine L_move rfl rfl ?_
      refine L_binV rfl rfl rfl (bv_addR (by unfold inR; omega)) ?_
      refine L_assign rfl rfl ?_
      refine L_nil ?_
      refine ⟨(k + 1, cur.set k u2), (Sub.cons rfl (Sub.cons rfl (Sub.cons rfl (Sub.nil _)))), (MSub.cons (by repeat (first | exact Pick.here _ | apply Pick.there)) (MSub.nil _)), ?_, ?_⟩
      · skip
        exact ⟨by dsimp only; omega, by simpa using hlen, map_take_set GT.dat GT.dat hdat (by omega) hu1 hd⟩
      · skip
        dsimp only; omega
    · skip
      refine W_exit ?_
      refine W_seq ?_
      refine W_region ?_
      refine L_move rfl rfl ?_
      refine L_assign rfl rfl ?_
      refine L_nil ?_
      refine W_ret ?_
      -- return 1 (R6)
      refine res1 rfl (ResOK.tmp rfl) ⟨⟨some ⟨g, 0, none⟩, x1.length, 75, cur, []⟩, ?_, ?_, rfl⟩ (MSub.cons (by repeat (first | exact Pick.here _ | apply Pick.there)) (MSub.nil _))
      · show _ = Value.slice _ cur.length _
        rw [hlen]
      · have hk2 : x1.length ≤ k := by simpa using hc3
        rw [List.take_of_length_le (by omega), List.take_of_length_le (by omega)] at hdat
        exact hdat

theorem eqCSet_spec (w : World) (t1 t2 : T_CSet) (h1 : GT.rd w [] t1) (h2 : GT.rd w [] t2) : Spec Tryd.prog 117 [.agg (GT.cells t1).toArray, .agg (GT.cells t2).toArray].toArray w [] (IsV (.bool (eqB (GT.dat t1) (GT.dat t2)))) := by
  obtain ⟨a1, a2⟩ := t1
  obtain ⟨b1, b2⟩ := t2
  change Spec _ _ [Value.agg #[.string a1, a2.hdr], Value.agg #[.string b1, b2.hdr]].toArray w [] _
  refine Spec.intro Tryd.func117 rfl Tryd.ntmps117 rfl ?_
  refine W_seq ?_
  refine W_region ?_
  refine L_box rfl rfl (fun bk2 => ?_)
  refine L_box rfl rfl (fun bk3 => ?_)
  refine L_assign rfl rfl ?_
  refine L_nil ?_
  refine W_seq ?_
  refine W_seq ?_
  refine W_region ?_
  refine L_fieldAddr rfl rfl fld72_0 ?_
  refine L_load rfl rfl (by first | exact RdC.blk (by repeat (first | exact List.Mem.head _ | apply List.Mem.tail))) one9 rfl ?_
  refine L_fieldAddr rfl rfl fld72_0 ?_
  refine L_load rfl rfl (by first | exact RdC.blk (by repeat (first | exact List.Mem.head _ | apply List.Mem.tail))) one9 rfl ?_
  refine L_binV rfl rfl rfl bv_sneq ?_
  refine L_nil ?_
  refine W_weaken (l' := [(2, _), (3, _), (9, _)]) (Sub.cons rfl (Sub.cons rfl (Sub.cons rfl (Sub.nil _)))) (MSub.refl _) ?_
  refine W_cond rfl (fun hc1 => ?_) (fun hc1 => ?_)
  · skip
    refine W_seq ?_
    refine W_region ?_
    refine L_assign rfl rfl ?_
    refine L_nil ?_
    refine W_ret ?_
    -- return 1 (R2)
    refine res1 rfl (ResOK.tmp rfl) ⟨?_, rfl⟩ (MSub.nil _)
    clear h1 h2
    first
      | (refine congrArg Value.bool (Eq.symm (eqB_false.2 fun e => ?_)); try simp only [dat_pair, dat_int, dat_bool, dat_str, Prod.mk.injEq] at e; simp_all; done)
      | (refine congrArg Value.bool (Eq.symm (eqB_true.2 ?_)); try simp only [dat_pair, dat_int, dat_bool, dat_str, Prod.mk.injEq]; simp_all; done)
  · skip
    refine W_skip ?_
    refine W_seq ?_
    refine W_seq ?_
    refine W_region ?_
    refine L_fieldAddr rfl rfl fld72_1 ?_
    refine L_load rfl rfl (by first | exact RdC.blk (by repeat (first | exact List.Mem.head _ | apply List.Mem.tail))) one70 rfl ?_
    refine L_fieldAddr rfl rfl fld72_1 ?_
    refine L_load rfl rfl (by first | exact RdC.blk (by repeat (first | exact List.Mem.head _ | apply List.Mem.tail))) one70 rfl ?_
    refine L_callX rfl fn141 rfl (by exact fun w hw => eqCSnapS_spec w _ _ (rd_carry (h1.2) hw) (rd_carry (h2.2) hw)) ?_
    refine L_not rfl rfl ?_
    refine L_nil ?_
    refine W_weaken (l' := [(15, _)]) (Sub.cons rfl (Sub.nil _)) (MSub.refl _) ?_
    refine W_cond rfl (fun hc3 => ?_) (fun hc3 => ?_)
    · skip
      refine W_seq ?_
      refine W_region ?_
      refine L_assign rfl rfl ?_
      refine L_nil ?_
      refine W_ret ?_
      -- return 2 (R4)
      refine res1 rfl (ResOK.tmp rfl) ⟨?_, rfl⟩ (MSub.nil _)
      clear h1 h2
      first
        | (refine congrArg Value.bool (Eq.symm (eqB_false.2 fun e => ?_)); try simp only [dat_pair, dat_int, dat_bool, dat_str, Prod.mk.injEq] at e; simp_all; done)
        | (refine congrArg Value.bool (Eq.symm (eqB_true.2 ?_)); try simp only [dat_pair, dat_int, dat_bool, dat_str, Prod.mk.injEq]; simp_all; done)
    · skip
      refine W_skip ?_
      refine W_seq ?_
      refine W_region ?_
      refine L_assign rfl rfl ?_
      refine L_nil ?_
      refine W_ret ?_
      -- return 3 (R5)
      refine res1 rfl (ResOK.tmp rfl) ⟨?_, rfl⟩ (MSub.nil _)
      clear h1 h2
      first
        | (refine congrArg Value.bool (Eq.symm (eqB_false.2 fun e => ?_)); try simp only [dat_pair, dat_int, dat_bool, dat_str, Prod.mk.injEq] at e; simp_all; done)
        | (refine congrArg Value.bool (Eq.symm (eqB_true.2 ?_)); try simp only [dat_pair, dat_int, dat_bool, dat_str, Prod.mk.injEq]; simp_all; done)

theorem szCSet_spec (w : World) (t1 : T_CSet) (left : Int) (hl : 0 ≤ left) (hm : left ≤ 1048576) (h1 : GT.rd w [] t1) (ho : Ok.ok (GT.dat t1)) : Spec Tryd.prog 108 [.agg (GT.cells t1).toArray, .int .i64 left].toArray w [] (IsV (.int .i64 (if (Bk.bulk t1 : Int) ≤ left then left - (Bk.bulk t1 : Int) else -1))) := by
  obtain ⟨a1, a2⟩ := t1
  have hs0 : a1.size ≤ 9223372036854775807 := ho.1
  change Spec _ _ [Value.agg #[.string a1, a2.hdr], .int .i64 left].toArray w [] _
  refine Spec.intro Tryd.func108 rfl Tryd.ntmps108 rfl ?_
  refine W_seq ?_
  refine W_region ?_
  refine L_box rfl rfl (fun bk2 => ?_)
  refine L_assign rfl rfl ?_
  refine L_nil ?_
  refine W_seq ?_
  refine W_region ?_
  refine L_move rfl rfl ?_
  refine L_fieldAddr rfl rfl fld132_0 ?_
  refine L_load rfl rfl (by first | exact RdC.blk (by repeat (first | exact List.Mem.head _ | apply List.Mem.tail))) one9 rfl ?_
  refine L_lenT rfl rfl str9 ?_
  refine L_binV rfl rfl rfl (bv_subR (by unfold inR; omega)) ?_
  refine L_assign rfl rfl ?_
  refine L_nil ?_
  refine W_seq ?_
  refine W_seq ?_
  refine W_region ?_
  refine L_move rfl rfl ?_
  refine L_binV rfl rfl rfl bv_lss ?_
  refine L_nil ?_
  refine W_weaken (l' := [(1, _), (2, _), (11, _)]) (Sub.cons rfl (Sub.cons rfl (Sub.cons rfl (Sub.nil _)))) (MSub.refl _) ?_
  refine W_cond rfl (fun hc2 => ?_) (fun hc2 => ?_)
  · skip
    have hb0 : left - (a1.size : Int) < 0 := by simpa using hc2
    refine W_seq ?_
    refine W_region ?_
    refine L_assign rfl rfl ?_
    refine L_nil ?_
    refine W_ret ?_
    -- return 1 (R3)
    refine res1 rfl (ResOK.tmp rfl) ⟨?_, rfl⟩ (MSub.nil _)
    try simp only [bulk_pair, bulk_int, bulk_bool, bulk_str, Int.natCast_add, Int.natCast_zero] at *
    all_goals first
      | rfl
      | (rw [if_pos (by omega)] <;> (congr 1 <;> omega))
      | (rw [if_neg (by omega)])
  · skip
    have hb0 : ¬ (left - (a1.size : Int) < 0) := by simpa using hc2
    refine W_skip ?_
    refine W_seq ?_
    refine W_region ?_
    refine L_fieldAddr rfl rfl fld132_1 ?_
    refine L_load rfl rfl (by first | exact RdC.blk (by repeat (first | exact List.Mem.head _ | apply List.Mem.tail))) one130 rfl ?_
    refine L_move rfl rfl ?_
    refine L_callX rfl fn137 rfl (by exact fun w hw => szCSnapS_spec w _ (left - (a1.size : Int)) (by omega) (by omega) (rd_carry (h1.2) hw) ho.2) ?_
    refine L_assign rfl rfl ?_
    refine L_nil ?_
    refine W_seq ?_
    refine W_seq ?_
    refine W_region ?_
    refine L_move rfl rfl ?_
    refine L_binV rfl rfl rfl bv_lss ?_
    refine L_nil ?_
    refine W_weaken (l' := [(1, _), (17, _)]) (Sub.cons rfl (Sub.cons rfl (Sub.nil _))) (MSub.refl _) ?_
    refine W_cond rfl (fun hc5 => ?_) (fun hc5 => ?_)
    · skip
      have hb1 : ¬ ((Bk.bulk a2 : Int) ≤ left - (a1.size : Int)) := by
        intro hn
        rw [if_pos hn] at hc5; simp at hc5; omega
      refine W_seq ?_
      refine W_region ?_
      refine L_assign rfl rfl ?_
      refine L_nil ?_
      refine W_ret ?_
      -- return 2 (R6)
      refine res1 rfl (ResOK.tmp rfl) ⟨?_, rfl⟩ (MSub.nil _)
      try simp only [bulk_pair, bulk_int, bulk_bool, bulk_str, Int.natCast_add, Int.natCast_zero] at *
      all_goals first
        | rfl
        | (rw [if_pos (by omega)] <;> (congr 1 <;> omega))
        | (rw [if_neg (by omega)])
    · skip
      have hb1 : (Bk.bulk a2 : Int) ≤ left - (a1.size : Int) := by
        rcases Int.decLt (left - (a1.size : Int)) (Bk.bulk a2 : Int) with hn | hn
        · omega
        · rw [if_neg (by omega)] at hc5; simp at hc5
      rw [if_pos hb1]
      refine W_skip ?_
      refine W_seq ?_
      refine W_region ?_
      refine L_move rfl rfl ?_
      refine L_assign rfl rfl ?_
      refine L_nil ?_
      refine W_ret ?_
      -- return 3 (R7)
      refine res1 rfl (ResOK.tmp rfl) ⟨?_, rfl⟩ (MSub.nil _)
      try simp only [bulk_pair, bulk_int, bulk_bool, bulk_str, Int.natCast_add, Int.natCast_zero] at *
      all_goals first
        | rfl
        | (rw [if_pos (by omega)] <;> (congr 1 <;> omega))
        | (rw [if_neg (by omega)])

theorem toCSet_spec (w : World) (t1 : T_CSet) (h1 : GT.rd w [] t1) (hb : Bk.bulk t1 ≤ 1048576) : Spec Tryd.prog 111 [.agg (GT.cells t1).toArray].toArray w [] (fun v M => ∃ t2 : T_CSet, v = .agg (GT.cells t2).toArray ∧ GT.dat t2 = GT.dat t1 ∧ M = [treeH t2]) := by
  obtain ⟨a1, a2⟩ := t1
  have hbk_1 : Bk.bulk a2 ≤ 1048576 := by (try simp only [bulk_pair, bulk_int, bulk_bool, bulk_str] at hb ⊢); omega
  change Spec _ _ [Value.agg #[.string a1, a2.hdr]].toArray w [] _
  refine Spec.intro Tryd.func111 rfl Tryd.ntmps111 rfl ?_
  refine W_seq ?_
  refine W_region ?_
  refine L_box rfl rfl (fun bk1 => ?_)
  refine L_alloc rfl zero72 (fun bk2 => ?_)
  refine L_nil ?_
  refine W_seq ?_
  refine W_region ?_
  refine L_alloc rfl zero72 (fun bk3 => ?_)
  refine L_nil ?_
  refine W_seq ?_
  refine W_region ?_
  refine L_fieldAddr rfl rfl fld132_0 ?_
  refine L_load rfl rfl (by first | exact RdC.blk (by repeat (first | exact List.Mem.head _ | apply List.Mem.tail))) one9 rfl ?_
  refine L_fieldAddr rfl rfl fld72_0 ?_
  refine L_store rfl rfl (by repeat (first | exact Pick.here _ | apply Pick.there)) one9 rfl rfl ?_
  refine L_nil ?_
  refine W_seq ?_
  refine W_region ?_
  refine L_fieldAddr rfl rfl fld132_1 ?_
  refine L_load rfl rfl (by first | exact RdC.blk (by repeat (first | exact List.Mem.head _ | apply List.Mem.tail))) one130 rfl ?_
  refine L_callR rfl fn138 rfl (by exact fun w hw => toCSnapS_spec w _ (rd_carry (h1.2) hw) hbk_1) ?_
  rintro v M1 ⟨n2t, hv, hd1, rfl⟩
  subst hv
  simp only [List.cons_append, List.nil_append]
  refine L_fieldAddr rfl rfl fld72_1 ?_
  refine L_store rfl rfl (by repeat (first | exact Pick.here _ | apply Pick.there)) one70 rfl rfl ?_
  refine L_nil ?_
  refine W_seq ?_
  refine W_region ?_
  refine L_loadW rfl rfl (by first | exact RdC.blk (by repeat (first | exact List.Mem.head _ | apply List.Mem.tail))) (by exact agg72) ?_
  refine L_storeW rfl rfl (by repeat (first | exact Pick.here _ | apply Pick.there)) (by exact agg72) (by rfl) (by first | (simp [Value.oneCell', TL.hdr]; done) | (simp [Value.oneCell', TL.hdr, Value.cells]; done) | exact fun v hv => GT.one _ v hv) ?_
  refine L_nil ?_
  refine W_conv (M' := treeH ((a1, n2t) : T_CSet) :: _) (fun w h => (tree_snd (flat_str (h1.1)) (frontPick (by repeat (first | exact Pick.here _ | apply Pick.there)) h))) ?_
  refine W_ret ?_
  -- return 1 (R4)
  refine res1 rfl (ResOK.cell rfl (by repeat (first | exact List.Mem.head _ | apply List.Mem.tail)) (by exact agg72)) ⟨(a1, n2t), rfl, by simp only [dat_pair, hd1], rfl⟩ (MSub.cons (by repeat (first | exact Pick.here _ | apply Pick.there)) (MSub.nil _))

theorem eqCSetS_spec (w : World) (t1 t2 : TL T_CSet) (h1 : GT.rd w [] t1) (h2 : GT.rd w [] t2) : Spec Tryd.prog 80 [t1.hdr, t2.hdr].toArray w [] (IsV (.bool (eqB (GT.dat t1) (GT.dat t2)))) := by
  obtain ⟨a1, c1, e1, x1, y1⟩ := t1
  obtain ⟨a2, c2, e2, x2, y2⟩ := t2
  have hm1 : x1.length ≤ 9223372036854775807 := rd_len h1
  have hm2 : x2.length ≤ 9223372036854775807 := rd_len h2
  dsimp only [TL.hdr]
  refine Spec.intro Tryd.func80 rfl Tryd.ntmps80 rfl ?_
  refine W_seq ?_
  refine W_region ?_
  refine L_assign rfl rfl ?_
  refine L_nil ?_
  refine W_seq ?_
  refine W_seq ?_
  refine W_region ?_
  refine L_move rfl rfl ?_
  refine L_lenS rfl rfl el51 ?_
  refine L_move rfl rfl ?_
  refine L_lenS rfl rfl el51 ?_
  refine L_binV rfl rfl rfl bv_neq ?_
  refine L_nil ?_
  refine W_weaken (l' := [(0, _), (1, _), (10, _)]) (Sub.cons rfl (Sub.cons rfl (Sub.cons rfl (Sub.nil _)))) (MSub.refl _) ?_
  refine W_cond rfl (fun hc1 => ?_) (fun hc1 => ?_)
  · skip
    refine W_seq ?_
    refine W_region ?_
    refine L_assign rfl rfl ?_
    refine L_nil ?_
    refine W_ret ?_
    -- return 1 (R2)
    refine res1 rfl (ResOK.tmp rfl) ⟨?_, rfl⟩ (MSub.nil _)
    refine congrArg Value.bool (Eq.symm (eqB_false.2 fun e => ?_))
    simp at hc1
    exact hc1 (by have := congrArg List.length e; simp [dat_TL] at this; omega)
  · skip
    have hl : x1.length = x2.length := by simp at hc1; omega
    refine W_skip ?_
    refine W_seq ?_
    refine W_seq ?_
    refine W_region ?_
    refine L_assign rfl rfl ?_
    refine L_nil ?_
    refine W_block ?_
    refine W_loopC (σ := Nat) 0 (fun (k : Nat) => [(5, .int .i64 (k : Int))]) (fun (k : Nat) => []) (fun (k : Nat) => k ≤ x1.length ∧ (x1.map GT.dat).take k = (x2.map GT.dat).take k) (fun (k : Nat) => x1.length - k) [(0, _), (1, _)] [] ?_ (Sub.cons rfl (Sub.cons rfl (Sub.cons rfl (Sub.nil _)))) (MSub.nil _) ?_
    · skip
      exact ⟨Nat.zero_le _, rfl⟩
    · skip
      rintro k ⟨hk, ht⟩
      refine W_weaken (l' := [(0, _), (1, _), (5, _)]) (Sub.cons rfl (Sub.cons rfl (Sub.cons rfl (Sub.nil _)))) (M' := []) (MSub.nil _) ?_
      refine W_seq ?_
      refine W_seq ?_
      refine W_region ?_
      refine L_move rfl rfl ?_
      refine L_move rfl rfl ?_
      refine L_lenS rfl rfl el51 ?_
      refine L_binV rfl rfl rfl bv_lss ?_
      refine L_nil ?_
      refine W_weaken (l' := [(0, _), (1, _), (5, _), (14, _)]) (Sub.cons rfl (Sub.cons rfl (Sub.cons rfl (Sub.cons rfl (Sub.nil _))))) (MSub.refl _) ?_
      refine W_cond rfl (fun hc4 => ?_) (fun hc4 => ?_)
      · skip
        have hk1 : k < x1.length := by simpa using hc4
        obtain ⟨g1, o1, rfl⟩ := rd_addr h1 hk1
        obtain ⟨g2, o2, rfl⟩ := rd_addr (k := k) h2 (show k < x2.length by omega)
        obtain ⟨u1, hu1⟩ := getEl hk1
        obtain ⟨u2, hu2⟩ := getEl (show k < x2.length by omega)
        refine W_skip ?_
        refine W_seq ?_
        refine W_block ?_
        refine W_seq ?_
        refine W_D0 [26] mix (by kernel_rfl) rfl ?_
        refine D_move GC.none (OpV.t rfl) ?_
        refine D_move GC.none (OpV.t rfl) ?_
        refine D_indexAddr _ GC.none (OpV.t rfl) (OpV.t rfl) el51 (fun hg => ⟨rfl, by (try dsimp only); omega⟩) ?_
        refine D_loadW GC.none (OpV.t rfl) (fun hg => (by first | exact RdC.blk (by repeat (first | exact List.Mem.head _ | apply List.Mem.tail)) | exact RdC.old (Cells.el h1 rfl hu1) | exact RdC.old (Cells.el h2 rfl hu2))) (by exact agg72) ?_
        refine D_move GC.none (OpV.t rfl) ?_
        refine D_move GC.none (OpV.t rfl) ?_
        refine D_indexAddr _ GC.none (OpV.t rfl) (OpV.t rfl) el51 (fun hg => ⟨rfl, by (try dsimp only); omega⟩) ?_
        refine D_loadW GC.none (OpV.t rfl) (fun hg => (by first | exact RdC.blk (by repeat (first | exact List.Mem.head _ | apply List.Mem.tail)) | exact RdC.old (Cells.el h1 rfl hu1) | exact RdC.old (Cells.el h2 rfl hu2))) (by exact agg72) ?_
        refine D_callX GC.none fn117 (OpVs.cons (OpV.t rfl) (OpVs.cons (OpV.t rfl) (OpVs.nil))) (by exact fun hg w F hF hM => (fun w hw => eqCSet_spec w _ _ (rd_carry (h1.2.2.1 _ (List.mem_of_getElem? hu1)) hw) (rd_carry (h2.2.2.1 _ (List.mem_of_getElem? hu2)) hw)) w hF) ?_
        refine D_not GC.none (OpV.t rfl) ?_
        refine DV_nil ?_
        refine Give_is rfl rfl ?_
        refine Give_drop rfl ?_
        refine Give_drop rfl ?_
        refine Give_drop rfl ?_
        refine Give_drop rfl ?_
        refine Give_drop rfl ?_
        refine Give_drop rfl ?_
        refine Give_drop rfl ?_
        refine Give_drop rfl ?_
        refine Give_drop rfl ?_
        refine Give_nil ?_
        refine W_weaken (l' := [(0, _), (1, _), (5, _), (26, _)]) (Sub.cons rfl (Sub.cons rfl (Sub.cons rfl (Sub.cons rfl (Sub.nil _))))) (MSub.refl _) ?_
        refine W_cond rfl (fun hc6 => ?_) (fun hc6 => ?_)
        · skip
          refine W_seq ?_
          refine W_region ?_
          refine L_assign rfl rfl ?_
          refine L_nil ?_
          refine W_ret ?_
          -- return 2 (R7)
          refine res1 rfl (ResOK.tmp rfl) ⟨?_, rfl⟩ (MSub.nil _)
          refine congrArg Value.bool (Eq.symm (eqB_false.2 fun e => ?_))
          simp at hc6
          replace e : x1.map GT.dat = x2.map GT.dat := e
          have e2 := congrArg (fun l => l[k]?) e
          simp only [List.getElem?_map, hu1, hu2, Option.map_some, Option.some.injEq] at e2
          exact hc6 (by simpa [dat_int, dat_str, dat_bool] using e2)
        · skip
          refine W_skip ?_
          refine W_region ?_
          refine L_move rfl rfl ?_
          refine L_binV rfl rfl rfl (bv_addR (by unfold inR; omega)) ?_
          refine L_assign rfl rfl ?_
          refine L_nil ?_
          refine ⟨k + 1, (Sub.cons rfl (Sub.cons rfl (Sub.cons rfl (Sub.nil _)))), (MSub.nil _), ?_, ?_⟩
          · skip
            exact ⟨by omega, take_succ_eq ht (by rw [List.getElem?_map, hu1]; rfl) (by rw [List.getElem?_map, hu2]; rfl) (by simpa [dat_int, dat_str, dat_bool] using hc6)⟩
          · skip
            (try dsimp only); omega
      · skip
        refine W_exit ?_
        refine W_seq ?_
        refine W_region ?_
        refine L_assign rfl rfl ?_
        refine L_nil ?_
        refine W_ret ?_
        -- return 3 (R8)
        refine res1 rfl (ResOK.tmp rfl) ⟨?_, rfl⟩ (MSub.nil _)
        refine congrArg Value.bool (Eq.symm (eqB_true.2 ?_))
        have hk2 : x1.length ≤ k := by simpa using hc4
        have h3 := ht
        rw [List.take_of_length_le (by simp; omega), List.take_of_length_le (by simp; omega)] at h3
        exact h3

theorem szCSetS_spec (w : World) (t1 : TL T_CSet) (left : Int) (hl : 0 ≤ left) (hm : left ≤ 1048576) (h1 : GT.rd w [] t1) (ho : Ok.ok (GT.dat t1)) : Spec Tryd.prog 71 [t1.hdr, .int .i64 left].toArray w [] (IsV (.int .i64 (if (Bk.bulk t1 : Int) ≤ left then left - (Bk.bulk t1 : Int) else -1))) := by
  obtain ⟨a1, c1, e1, x1, y1⟩ := t1
  have hm1 : x1.length ≤ 9223372036854775807 := rd_len h1
  rw [bulk_TL]
  dsimp only [TL.hdr]
  refine Spec.intro Tryd.func71 rfl Tryd.ntmps71 rfl ?_
  refine W_seq ?_
  refine W_region ?_
  refine L_assign rfl rfl ?_
  refine L_nil ?_
  refine W_seq ?_
  refine W_region ?_
  refine L_move rfl rfl ?_
  refine L_move rfl rfl ?_
  refine L_lenS rfl rfl el46 ?_
  refine L_binV rfl rfl rfl (bv_subR (by unfold inR; omega)) ?_
  refine L_assign rfl rfl ?_
  refine L_nil ?_
  refine W_seq ?_
  refine W_seq ?_
  refine W_region ?_
  refine L_move rfl rfl ?_
  refine L_binV rfl rfl rfl bv_lss ?_
  refine L_nil ?_
  refine W_weaken (l' := [(0, _), (1, _), (11, _)]) (Sub.cons rfl (Sub.cons rfl (Sub.cons rfl (Sub.nil _)))) (MSub.refl _) ?_
  refine W_cond rfl (fun hc2 => ?_) (fun hc2 => ?_)
  · skip
    have hb0 : left - (x1.length : Int) < 0 := by simpa using hc2
    refine W_seq ?_
    refine W_region ?_
    refine L_assign rfl rfl ?_
    refine L_nil ?_
    refine W_ret ?_
    -- return 1 (R3)
    refine res1 rfl (ResOK.tmp rfl) ⟨?_, rfl⟩ (MSub.nil _)
    first
      | (rw [if_neg (by simp only [Int.natCast_add]; omega)]; done)
      | (rw [if_neg (by have := bulks_take_le x1 (k + 1); simp only [Int.natCast_add]; omega)]; done)
      | (have hk2 : x1.length ≤ k := by simpa using hc5
         rw [List.take_of_length_le hk2] at ht ⊢
         rw [if_pos (by simp only [Int.natCast_add]; omega)]; congr 1; simp only [Int.natCast_add]; omega)
  · skip
    have hb0 : ¬ (left - (x1.length : Int) < 0) := by simpa using hc2
    refine W_skip ?_
    refine W_seq ?_
    refine W_seq ?_
    refine W_region ?_
    refine L_assign rfl rfl ?_
    refine L_nil ?_
    refine W_block ?_
    have h0 : left - (x1.length : Int) = left - (x1.length : Int) - (bulks (x1.take 0) : Int) := by simp [bulks]
    rw [h0]
    refine W_loopC (σ := Nat) 0 (fun (k : Nat) => [(1, .int .i64 (left - (x1.length : Int) - (bulks (x1.take k) : Int))), (5, .int .i64 (k : Int))]) (fun (k : Nat) => []) (fun (k : Nat) => k ≤ x1.length ∧ 0 ≤ (left - (x1.length : Int) - (bulks (x1.take k) : Int))) (fun (k : Nat) => x1.length - k) [(0, _)] [] ?_ (Sub.cons rfl (Sub.cons rfl (Sub.cons rfl (Sub.nil _)))) (MSub.nil _) ?_
    · skip
      exact ⟨Nat.zero_le _, by simp [bulks]; omega⟩
    · skip
      rintro k ⟨hk, ht⟩
      refine W_weaken (l' := [(0, _), (1, _), (5, _)]) (Sub.cons rfl (Sub.cons rfl (Sub.cons rfl (Sub.nil _)))) (M' := []) (MSub.nil _) ?_
      refine W_seq ?_
      refine W_seq ?_
      refine W_region ?_
      refine L_move rfl rfl ?_
      refine L_move rfl rfl ?_
      refine L_lenS rfl rfl el46 ?_
      refine L_binV rfl rfl rfl bv_lss ?_
      refine L_nil ?_
      refine W_weaken (l' := [(0, _), (1, _), (5, _), (15, _)]) (Sub.cons rfl (Sub.cons rfl (Sub.cons rfl (Sub.cons rfl (Sub.nil _))))) (MSub.refl _) ?_
      refine W_cond rfl (fun hc5 => ?_) (fun hc5 => ?_)
      · skip
        have hk1 : k < x1.length := by simpa using hc5
        obtain ⟨g1, o1, rfl⟩ := rd_addr h1 hk1
        obtain ⟨u1, hu1⟩ := getEl hk1
        have hbs := bulks_take_succ hu1
        have hble := bulks_take_le x1 (k + 1)
        refine W_skip ?_
        refine W_seq ?_
        refine W_block ?_
        refine W_seq ?_
        refine W_region ?_
        refine L_move rfl rfl ?_
        refine L_move rfl rfl ?_
        refine L_indexAddr rfl rfl rfl el46 rfl (by omega) ?_
        refine L_loadW rfl rfl (by first | exact RdC.blk (by repeat (first | exact List.Mem.head _ | apply List.Mem.tail)) | exact RdC.old (Cells.el h1 rfl hu1)) (by exact agg132) ?_
        refine L_move rfl rfl ?_
        refine L_callX rfl fn108 rfl (by exact fun w hw => szCSet_spec w _ _ (by omega) (by omega) (rd_carry (h1.2.2.1 _ (List.mem_of_getElem? hu1)) hw) (ho.2 _ (List.mem_map.2 ⟨u1, List.mem_of_getElem? hu1, rfl⟩))) ?_
        refine L_assign rfl rfl ?_
        refine L_nil ?_
        refine W_seq ?_
        refine W_region ?_
        refine L_move rfl rfl ?_
        refine L_binV rfl rfl rfl bv_lss ?_
        refine L_nil ?_
        refine W_weaken (l' := [(0, _), (1, _), (5, _), (25, _)]) (Sub.cons rfl (Sub.cons rfl (Sub.cons rfl (Sub.cons rfl (Sub.nil _))))) (MSub.refl _) ?_
        refine W_cond rfl (fun hc8 => ?_) (fun hc8 => ?_)
        · skip
          have hb1 : ¬ ((Bk.bulk u1 : Int) ≤ (left - (x1.length : Int) - (bulks (x1.take k) : Int))) := by
            intro hn
            rw [if_pos hn] at hc8; simp at hc8; omega
          refine W_seq ?_
          refine W_region ?_
          refine L_assign rfl rfl ?_
          refine L_nil ?_
          refine W_ret ?_
          -- return 2 (R9)
          refine res1 rfl (ResOK.tmp rfl) ⟨?_, rfl⟩ (MSub.nil _)
          first
            | (rw [if_neg (by simp only [Int.natCast_add]; omega)]; done)
            | (rw [if_neg (by have := bulks_take_le x1 (k + 1); simp only [Int.natCast_add]; omega)]; done)
            | (have hk2 : x1.length ≤ k := by simpa using hc5
               rw [List.take_of_length_le hk2] at ht ⊢
               rw [if_pos (by simp only [Int.natCast_add]; omega)]; congr 1; simp only [Int.natCast_add]; omega)
        · skip
          have hb1 : (Bk.bulk u1 : Int) ≤ (left - (x1.length : Int) - (bulks (x1.take k) : Int)) := by
            rcases Int.decLt (left - (x1.length : Int) - (bulks (x1.take k) : Int)) (Bk.bulk u1 : Int) with hn | hn
            · omega
            · rw [if_neg (by omega)] at hc8; simp at hc8
          rw [if_pos hb1]
          have hnx : (left - (x1.length : Int) - (bulks (x1.take k) : Int)) - (Bk.bulk u1 : Int) = left - (x1.length : Int) - (bulks (x1.take (k + 1)) : Int) := by rw [hbs]; omega
          rw [hnx]
          refine W_skip ?_
          refine W_region ?_
          refine L_move rfl rfl ?_
          refine L_binV rfl rfl rfl (bv_addR (by unfold inR; omega)) ?_
          refine L_assign rfl rfl ?_
          refine L_nil ?_
          refine ⟨k + 1, (Sub.cons rfl (Sub.cons rfl (Sub.cons rfl (Sub.nil _)))), (MSub.nil _), ?_, ?_⟩
          · skip
            exact ⟨by omega, by omega⟩
          · skip
            (try dsimp only); omega
      · skip
        refine W_exit ?_
        refine W_seq ?_
        refine W_region ?_
        refine L_move rfl rfl ?_
        refine L_assign rfl rfl ?_
        refine L_nil ?_
        refine W_ret ?_
        -- return 3 (R10)
        refine res1 rfl (ResOK.tmp rfl) ⟨?_, rfl⟩ (MSub.nil _)
        first
          | (rw [if_neg (by simp only [Int.natCast_add]; omega)]; done)
          | (rw [if_neg (by have := bulks_take_le x1 (k + 1); simp only [Int.natCast_add]; omega)]; done)
          | (have hk2 : x1.length ≤ k := by simpa using hc5
             rw [List.take_of_length_le hk2] at ht ⊢
             rw [if_pos (by simp only [Int.natCast_add]; omega)]; congr 1; simp only [Int.natCast_add]; omega)

theorem toCSetS_spec (w : World) (t1 : TL T_CSet) (h1 : GT.rd w [] t1) (hb : Bk.bulk t1 ≤ 1048576) : Spec Tryd.prog 76 [t1.hdr].toArray w [] (fun v M => ∃ t2 : TL T_CSet, v = t2.hdr ∧ GT.dat t2 = GT.dat t1 ∧ M = [treeH t2]) := by
  obtain ⟨a1, c1, e1, x1, y1⟩ := t1
  rw [bulk_TL] at hb
  dsimp only [TL.hdr]
  refine Spec.intro Tryd.func76 rfl Tryd.ntmps76 rfl ?_
  refine W_seq ?_
  refine W_region ?_
  refine L_assign rfl rfl ?_
  refine L_nil ?_
  refine W_seq ?_
  refine W_region ?_
  refine L_move rfl rfl ?_
  refine L_lenS rfl rfl el46 ?_
  refine L_make (τ := T_CSet) (ByteArray.empty, (TL.nil T_CSnap 0)) rfl rfl rfl el51 rfl rfl (flat_pair (flat_str trivial) (flat_nil 0)) (by omega) (by unfold maxLen; omega) (fun g => ?_)
  refine L_assign rfl rfl ?_
  refine L_nil ?_
  refine W_seq ?_
  refine W_seq ?_
  refine W_region ?_
  refine L_assign rfl rfl ?_
  refine L_nil ?_
  refine W_block ?_
  refine W_loopC (σ := Nat × List T_CSet) (0, List.replicate x1.length (ByteArray.empty, (TL.nil T_CSnap 0))) (fun (p : Nat × List T_CSet) => [(4, .int .i64 (p.1 : Int))]) (fun (p : Nat × List T_CSet) => [treeH (⟨some ⟨g, 0, none⟩, x1.length, 72, p.2, []⟩ : TL T_CSet)]) (fun (p : Nat × List T_CSet) => p.1 ≤ x1.length ∧ p.2.length = x1.length ∧ (p.2.take p.1).map GT.dat = (x1.take p.1).map GT.dat) (fun (p : Nat × List T_CSet) => x1.length - p.1) [(0, _), (3, _)] [] ?_ (Sub.cons rfl (Sub.cons rfl (Sub.cons rfl (Sub.nil _)))) (MSub.cons (by repeat (first | exact Pick.here _ | apply Pick.there)) (MSub.nil _)) ?_
  · skip
    exact ⟨Nat.zero_le _, by simp, by simp⟩
  · skip
    rintro ⟨k, cur⟩ ⟨hk, hlen, hdat⟩
    dsimp only at hk hlen hdat
    refine W_weaken (l' := [(0, _), (3, _), (4, _)]) (Sub.cons rfl (Sub.cons rfl (Sub.cons rfl (Sub.nil _)))) (M' := [_]) (MSub.cons (by repeat (first | exact Pick.here _ | apply Pick.there)) (MSub.nil _)) ?_
    refine W_seq ?_
    refine W_seq ?_
    refine W_region ?_
    refine L_move rfl rfl ?_
    refine L_move rfl rfl ?_
    refine L_lenS rfl rfl el46 ?_
    refine L_binV rfl rfl rfl bv_lss ?_
    refine L_nil ?_
    refine W_weaken (l' := [(0, _), (3, _), (4, _), (11, _)]) (Sub.cons rfl (Sub.cons rfl (Sub.cons rfl (Sub.cons rfl (Sub.nil _))))) (MSub.refl _) ?_
    refine W_cond rfl (fun hc3 => ?_) (fun hc3 => ?_)
    · skip
      have hk1 : k < x1.length := by simpa using hc3
      obtain ⟨g1, o1, rfl⟩ := rd_addr h1 hk1
      obtain ⟨u1, hu1⟩ := getEl hk1
      have hub : Bk.bulk u1 ≤ 1048576 := by have := bulk_mem (List.mem_of_getElem? hu1); omega
      refine W_skip ?_
      refine W_seq ?_
      refine W_block ?_
      refine W_region ?_
      refine L_move rfl rfl ?_
      refine L_move rfl rfl ?_
      refine L_move rfl rfl ?_
      refine L_move rfl rfl ?_
      refine L_indexAddr rfl rfl rfl el46 rfl (by omega) ?_
      refine L_loadW rfl rfl (by first | exact RdC.blk (by repeat (first | exact List.Mem.head _ | apply List.Mem.tail)) | exact RdC.old (Cells.el h1 rfl hu1)) (by exact agg132) ?_
      refine L_callR rfl fn111 rfl (by exact fun w hw => toCSet_spec w _ (rd_carry (h1.2.2.1 _ (List.mem_of_getElem? hu1)) hw) hub) ?_
      rintro v M1 ⟨u2, hv, hd, rfl⟩
      subst hv
      simp only [List.cons_append, List.nil_append]
      refine L_indexAddr rfl rfl rfl el51 rfl (by omega) ?_
      obtain ⟨u0, hu0⟩ := getEl (show k < cur.length by omega)
      refine L_storeEl u2 rfl rfl (by repeat (first | exact Pick.here _ | apply Pick.there)) rfl hu0 rfl (by repeat (first | exact Pick.here _ | apply Pick.there)) (.inl agg72) ?_
      refine L_nil ?_
      refine W_region ?_
      refine L_move rfl rfl ?_
      refine L_binV rfl rfl rfl (bv_addR (by unfold inR; omega)) ?_
      refine L_assign rfl rfl ?_
      refine L_nil ?_
      refine ⟨(k + 1, cur.set k u2), (Sub.cons rfl (Sub.cons rfl (Sub.cons rfl (Sub.nil _)))), (MSub.cons (by repeat (first | exact Pick.here _ | apply Pick.there)) (MSub.nil _)), ?_, ?_⟩
      · skip
        exact ⟨by dsimp only; omega, by simpa using hlen, map_take_set GT.dat GT.dat hdat (by omega) hu1 hd⟩
      · skip
        dsimp only; omega
    · skip
      refine W_exit ?_
      refine W_seq ?_
      refine W_region ?_
      refine L_move rfl rfl ?_
      refine L_assign rfl rfl ?_
      refine L_nil ?_
      refine W_ret ?_
      -- return 1 (R6)
      refine res1 rfl (ResOK.tmp rfl) ⟨⟨some ⟨g, 0, none⟩, x1.length, 72, cur, []⟩, ?_, ?_, rfl⟩ (MSub.cons (by repeat (first | exact Pick.here _ | apply Pick.there)) (MSub.nil _))
      · show _ = Value.slice _ cur.length _
        rw [hlen]
      · have hk2 : x1.length ≤ k := by simpa using hc3
        rw [List.take_of_length_le (by omega), List.take_of_length_le (by omega)] at hdat
        exact hdat

theorem eqCatalog_spec (w : World) (t1 t2 : T_Catalog) (h1 : GT.rd w [] t1) (h2 : GT.rd w [] t2) : Spec Tryd.prog 35 [.agg (GT.cells t1).toArray, .agg (GT.cells t2).toArray].toArray w [] (IsV (.bool (eqB (GT.dat t1) (GT.dat t2)))) := by
  generalize t1 = a1 at *
  generalize t2 = b1 at *
  change Spec _ _ [Value.agg #[a1.hdr], Value.agg #[b1.hdr]].toArray w [] _
  refine Spec.intro Tryd.func35 rfl Tryd.ntmps35 rfl ?_
  refine W_seq ?_
  refine W_region ?_
  refine L_box rfl rfl (fun bk2 => ?_)
  refine L_box rfl rfl (fun bk3 => ?_)
  refine L_assign rfl rfl ?_
  refine L_nil ?_
  refine W_seq ?_
  refine W_seq ?_
  refine W_region ?_
  refine L_fieldAddr rfl rfl fld53_0 ?_
  refine L_load rfl rfl (by first | exact RdC.blk (by repeat (first | exact List.Mem.head _ | apply List.Mem.tail))) one51 rfl ?_
  refine L_fieldAddr rfl rfl fld53_0 ?_
  refine L_load rfl rfl (by first | exact RdC.blk (by repeat (first | exact List.Mem.head _ | apply List.Mem.tail))) one51 rfl ?_
  refine L_callX rfl fn80 rfl (by exact fun w hw => eqCSetS_spec w _ _ (rd_carry (h1) hw) (rd_carry (h2) hw)) ?_
  refine L_not rfl rfl ?_
  refine L_nil ?_
  refine W_weaken (l' := [(10, _)]) (Sub.cons rfl (Sub.nil _)) (MSub.refl _) ?_
  refine W_cond rfl (fun hc1 => ?_) (fun hc1 => ?_)
  · skip
    refine W_seq ?_
    refine W_region ?_
    refine L_assign rfl rfl ?_
    refine L_nil ?_
    refine W_ret ?_
    -- return 1 (R2)
    refine res1 rfl (ResOK.tmp rfl) ⟨?_, rfl⟩ (MSub.nil _)
    clear h1 h2
    first
      | (simp_all; done)
      | (refine congrArg Value.bool (Eq.symm (eqB_false.2 fun e => ?_)); try simp only [dat_pair, dat_int, dat_bool, dat_str, Prod.mk.injEq] at e; simp_all; done)
      | (refine congrArg Value.bool (Eq.symm (eqB_true.2 ?_)); try simp only [dat_pair, dat_int, dat_bool, dat_str, Prod.mk.injEq]; simp_all; done)
  · skip
    refine W_skip ?_
    refine W_seq ?_
    refine W_region ?_
    refine L_assign rfl rfl ?_
    refine L_nil ?_
    refine W_ret ?_
    -- return 2 (R3)
    refine res1 rfl (ResOK.tmp rfl) ⟨?_, rfl⟩ (MSub.nil _)
    clear h1 h2
    first
      | (simp_all; done)
      | (refine congrArg Value.bool (Eq.symm (eqB_false.2 fun e => ?_)); try simp only [dat_pair, dat_int, dat_bool, dat_str, Prod.mk.injEq] at e; simp_all; done)
      | (refine congrArg Value.bool (Eq.symm (eqB_true.2 ?_)); try simp only [dat_pair, dat_int, dat_bool, dat_str, Prod.mk.injEq]; simp_all; done)

theorem szCatalog_spec (w : World) (t1 : T_Catalog) (left : Int) (hl : 0 ≤ left) (hm : left ≤ 1048576) (h1 : GT.rd w [] t1) (ho : Ok.ok (GT.dat t1)) : Spec Tryd.prog 31 [.agg (GT.cells t1).toArray, .int .i64 left].toArray w [] (IsV (.int .i64 (if (Bk.bulk t1 : Int) ≤ left then left - (Bk.bulk t1 : Int) else -1))) := by
  generalize t1 = a1 at *
  change Spec _ _ [Value.agg #[a1.hdr], .int .i64 left].toArray w [] _
  refine Spec.intro Tryd.func31 rfl Tryd.ntmps31 rfl ?_
  refine W_seq ?_
  refine W_region ?_
  refine L_box rfl rfl (fun bk2 => ?_)
  refine L_assign rfl rfl ?_
  refine L_nil ?_
  refine W_seq ?_
  refine W_region ?_
  refine L_fieldAddr rfl rfl fld48_0 ?_
  refine L_load rfl rfl (by first | exact RdC.blk (by repeat (first | exact List.Mem.head _ | apply List.Mem.tail))) one46 rfl ?_
  refine L_move rfl rfl ?_
  refine L_callX rfl fn71 rfl (by exact fun w hw => szCSetS_spec w _ (left) (by omega) (by omega) (rd_carry (h1) hw) ho) ?_
  refine L_assign rfl rfl ?_
  refine L_nil ?_
  refine W_seq ?_
  refine W_seq ?_
  refine W_region ?_
  refine L_move rfl rfl ?_
  refine L_binV rfl rfl rfl bv_lss ?_
  refine L_nil ?_
  refine W_weaken (l' := [(1, _), (10, _)]) (Sub.cons rfl (Sub.cons rfl (Sub.nil _))) (MSub.refl _) ?_
  refine W_cond rfl (fun hc2 => ?_) (fun hc2 => ?_)
  · skip
    have hb0 : ¬ ((Bk.bulk a1 : Int) ≤ left) := by
      intro hn
      rw [if_pos hn] at hc2; simp at hc2; omega
    refine W_seq ?_
    refine W_region ?_
    refine L_assign rfl rfl ?_
    refine L_nil ?_
    refine W_ret ?_
    -- return 1 (R3)
    refine res1 rfl (ResOK.tmp rfl) ⟨?_, rfl⟩ (MSub.nil _)
    try simp only [bulk_pair, bulk_int, bulk_bool, bulk_str, Int.natCast_add, Int.natCast_zero] at *
    all_goals first
      | rfl
      | (rw [if_pos (by omega)] <;> (congr 1 <;> omega))
      | (rw [if_neg (by omega)])
  · skip
    have hb0 : (Bk.bulk a1 : Int) ≤ left := by
      rcases Int.decLt (left) (Bk.bulk a1 : Int) with hn | hn
      · omega
      · rw [if_neg (by omega)] at hc2; simp at hc2
    rw [if_pos hb0]
    refine W_skip ?_
    refine W_seq ?_
    refine W_region ?_
    refine L_move rfl rfl ?_
    refine L_assign rfl rfl ?_
    refine L_nil ?_
    refine W_ret ?_
    -- return 2 (R4)
    refine res1 rfl (ResOK.tmp rfl) ⟨?_, rfl⟩ (MSub.nil _)
    try simp only [bulk_pair, bulk_int, bulk_bool, bulk_str, Int.natCast_add, Int.natCast_zero] at *
    all_goals first
      | rfl
      | (rw [if_pos (by omega)] <;> (congr 1 <;> omega))
      | (rw [if_neg (by omega)])

theorem toCatalog_spec (w : World) (t1 : T_Catalog) (h1 : GT.rd w [] t1) (hb : Bk.bulk t1 ≤ 1048576) : Spec Tryd.prog 33 [.agg (GT.cells t1).toArray].toArray w [] (fun v M => ∃ t2 : T_Catalog, v = .agg (GT.cells t2).toArray ∧ GT.dat t2 = GT.dat t1 ∧ M = [treeH t2]) := by
  generalize t1 = a1 at *
  have hbk_0 : Bk.bulk a1 ≤ 1048576 := by (try simp only [bulk_pair, bulk_int, bulk_bool, bulk_str] at hb ⊢); omega
  change Spec _ _ [Value.agg #[a1.hdr]].toArray w [] _
  refine Spec.intro Tryd.func33 rfl Tryd.ntmps33 rfl ?_
  refine W_seq ?_
  refine W_region ?_
  refine L_box rfl rfl (fun bk1 => ?_)
  refine L_alloc rfl zero53 (fun bk2 => ?_)
  refine L_nil ?_
  refine W_seq ?_
  refine W_region ?_
  refine L_alloc rfl zero53 (fun bk3 => ?_)
  refine L_nil ?_
  refine W_seq ?_
  refine W_region ?_
  refine L_fieldAddr rfl rfl fld48_0 ?_
  refine L_load rfl rfl (by first | exact RdC.blk (by repeat (first | exact List.Mem.head _ | apply List.Mem.tail))) one46 rfl ?_
  refine L_callR rfl fn76 rfl (by exact fun w hw => toCSetS_spec w _ (rd_carry (h1) hw) hbk_0) ?_
  rintro v M1 ⟨n1t, hv, hd0, rfl⟩
  subst hv
  simp only [List.cons_append, List.nil_append]
  refine L_fieldAddr rfl rfl fld53_0 ?_
  refine L_store rfl rfl (by repeat (first | exact Pick.here _ | apply Pick.there)) one51 rfl rfl ?_
  refine L_nil ?_
  refine W_seq ?_
  refine W_region ?_
  refine L_loadW rfl rfl (by first | exact RdC.blk (by repeat (first | exact List.Mem.head _ | apply List.Mem.tail))) (by exact agg53) ?_
  refine L_storeW rfl rfl (by repeat (first | exact Pick.here _ | apply Pick.there)) (by exact agg53) (by rfl) (by first | (simp [Value.oneCell', TL.hdr]; done) | (simp [Value.oneCell', TL.hdr, Value.cells]; done) | exact fun v hv => GT.one _ v hv) ?_
  refine L_nil ?_
  refine W_conv (M' := treeH ((n1t) : T_Catalog) :: _) (fun w h => (frontPick (by repeat (first | exact Pick.here _ | apply Pick.there)) h)) ?_
  refine W_ret ?_
  -- return 1 (R3)
  refine res1 rfl (ResOK.cell rfl (by repeat (first | exact List.Mem.head _ | apply List.Mem.tail)) (by exact agg53)) ⟨(n1t), rfl, by simp only [dat_pair, hd0], rfl⟩ (MSub.cons (by repeat (first | exact Pick.here _ | apply Pick.there)) (MSub.nil _))

end Go.Proofs.SL
