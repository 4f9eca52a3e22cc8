/- The texts of the proof, part 11: the base, walks of functions, plain Lean. -/
import Derived.Test.YtgeilkcgaepblaaGreatT10
import Derived.Test.YtgeilkcgaepblaaGreatT4
import Derived.Test.YtgeilkcgaepblaaGreatRows
namespace Go.Proofs.SL
open Go
instance bdNet : Bd T_ENet := instBdProd
theorem bd_inst (x : D_Inst) : x.2.2.2.2.1.2.2.2.2.2.2.2.length + x.2.2.2.2.2.2.1.length ≤ Bd.bd (τ := T_Inst) x := by
  show _ ≤ ((0 + 0) + (0 + (0 + (0 + ((0 + (0 + (0 + (x.2.2.2.2.1.2.2.2.1.size + (x.2.2.2.2.1.2.2.2.2.1.size + (x.2.2.2.2.1.2.2.2.2.2.1.size + (0 + (x.2.2.2.2.1.2.2.2.2.2.2.2.length + bds ByteArray x.2.2.2.2.1.2.2.2.2.2.2.2)))))))) + (0 + ((x.2.2.2.2.2.2.1.length + bds T_Id x.2.2.2.2.2.2.1) + 0)))))))
  omega
theorem bd_node (d : D_ENode) : Bd.bd (τ := T_ENode) d = (d.2.2.1.length + bds T_Inst d.2.2.1) + (d.2.2.2.length + bds T_Lead d.2.2.2) := by
  show 0 + (0 + ((d.2.2.1.length + bds T_Inst d.2.2.1) + (d.2.2.2.length + bds T_Lead d.2.2.2))) = _
  omega
theorem small_net {d : D_ENet} (h : Bd.bd (τ := T_ENet) d ≤ 1048576) : smallD d := by
  have h0 : (d.1.length + bds T_ENode d.1) + (d.2.length + bds T_EMsg d.2) ≤ 1048576 := h
  intro n hn
  have h1 := bds_mem (τ := T_ENode) hn
  rw [bd_node] at h1
  refine ⟨by omega, fun x hx => ?_⟩
  have h2 := bds_mem (τ := T_Inst) hx
  have h3 := bd_inst x
  exact ⟨by omega, by omega⟩
end Go.Proofs.SL
namespace Go.Proofs.SL
open Go
set_option maxHeartbeats 2000000
instance el125 : ElF Tryz.prog 125 5 1 1 [.int .u8 0] := ⟨by kernel_rfl⟩
instance und125 : UndF Tryz.prog 125 (.slice 5) := ⟨by kernel_rfl⟩
instance und5 : UndF Tryz.prog 5 (.int .u8) := ⟨by kernel_rfl⟩
instance und9 : UndF Tryz.prog 9 (.string) := ⟨by kernel_rfl⟩
theorem eqIntS_spec (w : World) (t1 t2 : TL Int) (h1 : GT.rd w [] t1) (h2 : GT.rd w [] t2) : Spec Tryz.prog 12 [t1.hdr, t2.hdr].toArray w [] (IsV (.bool (eqB (GT.dat t1) (GT.dat t2)))) := by
  obtain ⟨a1, c1, e1, x1, y1⟩ := t1
  obtain ⟨a2, c2, e2, x2, y2⟩ := t2
  have hm1 : x1.length ≤ 9223372036854775807 := rd_len h1
  have hm2 : x2.length ≤ 9223372036854775807 := rd_len h2
  dsimp only [TL.hdr]
  refine Spec.intro Tryz.func12 rfl Tryz.ntmps12 rfl ?_
  refine s8 ?_
  refine L_lenS rfl rfl el35.h ?_
  refine s1 ?_
  refine L_lenS rfl rfl el35.h ?_
  refine s2 ?_
  refine kp [0, 1, 10] ?_
  refine W_cond rfl (fun hc1 => ?_) (fun hc1 => ?_)
  · refine s5 ?_
    -- return 1 (R2)
    refine res1 rfl (ResOK.tmp rfl) ⟨?_, rfl⟩ ms
    refine congrArg Value.bool (Eq.symm (eqB_false.2 fun e => ?_))
    simp at hc1
    exact hc1 (by have := congrArg List.length e; simp [dat_TL] at this; omega)
  · have hl : x1.length = x2.length := by simp at hc1; omega
    refine s7 ?_
    refine W_loopC (σ := Nat) 0 (fun (k : Nat) => [(5, .int .i64 (k : Int))]) (fun (k : Nat) => []) (fun (k : Nat) => k ≤ x1.length ∧ (x1.map GT.dat).take k = (x2.map GT.dat).take k) (fun (k : Nat) => x1.length - k) [(0, _), (1, _)] [] ?_ sb ms ?_
    · exact ⟨Nat.zero_le _, rfl⟩
    · rintro k ⟨hk, ht⟩
      refine kq [0, 1, 5] ?_
      refine s5 ?_
      refine L_lenS rfl rfl el35.h ?_
      refine s2 ?_
      refine kp [0, 1, 5, 14] ?_
      refine W_cond rfl (fun hc4 => ?_) (fun hc4 => ?_)
      · have hk1 : k < x1.length := by simpa using hc4
        obtain ⟨g1, o1, rfl⟩ := rd_addr h1 hk1
        obtain ⟨g2, o2, rfl⟩ := rd_addr (k := k) h2 (show k < x2.length by omega)
        obtain ⟨u1, hu1⟩ := getEl hk1
        obtain ⟨u2, hu2⟩ := getEl (show k < x2.length by omega)
        refine s4 ?_
        refine W_D0 [25] mix (by kernel_rfl) rfl ?_
        refine s2 ?_
        refine D_indexAddr _ GC.none (OpV.t rfl) (OpV.t rfl) el35.h (fun hg => ⟨rfl, by (try dsimp only); omega⟩) ?_
        refine D_load0 GC.none (OpV.t rfl) (fun hg => (by first | exact RdC.blk mm | exact RdC.old (Cells.el h1 rfl hu1) | exact RdC.old (Cells.el h2 rfl hu2))) one3.h rfl ?_
        refine s2 ?_
        refine D_indexAddr _ GC.none (OpV.t rfl) (OpV.t rfl) el35.h (fun hg => ⟨rfl, by (try dsimp only); omega⟩) ?_
        refine D_load0 GC.none (OpV.t rfl) (fun hg => (by first | exact RdC.blk mm | exact RdC.old (Cells.el h1 rfl hu1) | exact RdC.old (Cells.el h2 rfl hu2))) one3.h rfl ?_
        refine s12 ?_
        refine kp [0, 1, 5, 25] ?_
        refine W_cond rfl (fun hc6 => ?_) (fun hc6 => ?_)
        · refine s5 ?_
          -- return 2 (R7)
          refine res1 rfl (ResOK.tmp rfl) ⟨?_, rfl⟩ ms
          refine congrArg Value.bool (Eq.symm (eqB_false.2 fun e => ?_))
          simp at hc6
          replace e : x1.map GT.dat = x2.map GT.dat := e
          have e2 := congrArg (fun l => l[k]?) e
          simp only [List.getElem?_map, hu1, hu2, Option.map_some, Option.some.injEq] at e2
          exact hc6 (by simpa [dat_int, dat_str, dat_bool] using e2)
        · refine s3 ?_
          refine L_binV rfl rfl rfl (bv_addR (by unfold inR; omega)) ?_
          refine s2 ?_
          refine ⟨k + 1, sb, ms, ?_, ?_⟩
          · exact ⟨by omega, take_succ_eq ht (by rw [List.getElem?_map, hu1]; rfl) (by rw [List.getElem?_map, hu2]; rfl) (by simpa [dat_int, dat_str, dat_bool] using hc6)⟩
          · (try dsimp only); omega
      · refine W_exit ?_
        refine s5 ?_
        -- return 3 (R8)
        refine res1 rfl (ResOK.tmp rfl) ⟨?_, rfl⟩ ms
        refine congrArg Value.bool (Eq.symm (eqB_true.2 ?_))
        have hk2 : x1.length ≤ k := by simpa using hc4
        have h3 := ht
        rw [List.take_of_length_le (by simp; omega), List.take_of_length_le (by simp; omega)] at h3
        exact h3
theorem szIntS_spec (w : World) (t1 : TL Int) (left : Int) (hl : 0 ≤ left) (hm : left ≤ 1048576) (h1 : GT.rd w [] t1) (ho : Ok.ok (GT.dat t1)) : Spec Tryz.prog 141 [t1.hdr, .int .i64 left].toArray w [] (IsV (.int .i64 (if (Bk.bulk t1 : Int) ≤ left then left - (Bk.bulk t1 : Int) else -1))) := by
  obtain ⟨a1, c1, e1, x1, y1⟩ := t1
  have hm1 : x1.length ≤ 9223372036854775807 := rd_len h1
  rw [bulk_TL]
  dsimp only [TL.hdr]
  have hz : bulks x1 = 0 := by
    clear hm1 h1 ho
    induction x1 with
    | nil => rfl
    | cons y ys ih => simp only [bulks, ih]; rfl
  refine Spec.intro Tryz.func141 rfl Tryz.ntmps141 rfl ?_
  refine s8 ?_
  refine L_lenS rfl rfl el35.h ?_
  refine L_binV rfl rfl rfl (bv_subR (by unfold inR; omega)) ?_
  refine s8 ?_
  refine kp [1, 10] ?_
  refine W_cond rfl (fun hc2 => ?_) (fun hc2 => ?_)
  · have hb0 : left - (x1.length : Int) < 0 := by simpa using hc2
    refine s5 ?_
    -- return 1 (R3)
    refine res1 rfl (ResOK.tmp rfl) ⟨?_, rfl⟩ ms
    simp only [hz, Nat.add_zero]
    first
      | (rw [if_pos (by omega)]; done)
      | (rw [if_neg (by omega)])
  · have hb0 : ¬ (left - (x1.length : Int) < 0) := by simpa using hc2
    skip
    refine s7 ?_
    -- return 2 (R4)
    refine res1 rfl (ResOK.tmp rfl) ⟨?_, rfl⟩ ms
    simp only [hz, Nat.add_zero]
    first
      | (rw [if_pos (by omega)]; done)
      | (rw [if_neg (by omega)])
theorem toIntS_spec (w : World) (t1 : TL Int) (h1 : GT.rd w [] t1) (hb : Bk.bulk t1 ≤ 1048576) : Spec Tryz.prog 144 [t1.hdr].toArray w [] (fun v M => ∃ t2 : TL Int, v = t2.hdr ∧ GT.dat t2 = GT.dat t1 ∧ M = [treeH t2]) := by
  obtain ⟨a1, c1, e1, x1, y1⟩ := t1
  rw [bulk_TL] at hb
  dsimp only [TL.hdr]
  refine Spec.intro Tryz.func144 rfl Tryz.ntmps144 rfl ?_
  refine s7 ?_
  refine L_lenS rfl rfl el35.h ?_
  refine L_make (τ := Int) (0 : Int) rfl rfl rfl el35.h rfl rfl (flat_int trivial) (by omega) (by unfold maxLen; omega) (fun g => ?_)
  refine s8 ?_
  refine W_loopC (σ := Nat × List Int) (0, List.replicate x1.length (0 : Int)) (fun (p : Nat × List Int) => [(4, .int .i64 (p.1 : Int))]) (fun (p : Nat × List Int) => [treeH (⟨some ⟨g, 0, none⟩, x1.length, 3, p.2, []⟩ : TL Int)]) (fun (p : Nat × List Int) => p.1 ≤ x1.length ∧ p.2.length = x1.length ∧ (p.2.take p.1).map GT.dat = (x1.take p.1).map GT.dat) (fun (p : Nat × List Int) => x1.length - p.1) [(0, _), (3, _)] [] ?_ sb ms ?_
  · exact ⟨Nat.zero_le _, by simp, by simp⟩
  · rintro ⟨k, cur⟩ ⟨hk, hlen, hdat⟩
    dsimp only at hk hlen hdat
    refine kq [0, 3, 4] ?_
    refine s5 ?_
    refine L_lenS rfl rfl el35.h ?_
    refine s2 ?_
    refine kp [0, 3, 4, 11] ?_
    refine W_cond rfl (fun hc3 => ?_) (fun hc3 => ?_)
    · have hk1 : k < x1.length := by simpa using hc3
      obtain ⟨g1, o1, rfl⟩ := rd_addr h1 hk1
      obtain ⟨u1, hu1⟩ := getEl hk1
      have hub : Bk.bulk u1 ≤ 1048576 := by have := bulk_mem (List.mem_of_getElem? hu1); omega
      refine s8 ?_
      refine L_indexAddr rfl rfl rfl el35.h rfl (by omega) ?_
      refine L_load0 rfl rfl (by first | exact RdC.blk mm | exact RdC.old (Cells.el h1 rfl hu1)) one3.h rfl ?_
      refine L_indexAddr rfl rfl rfl el35.h rfl (by omega) ?_
      obtain ⟨u0, hu0⟩ := getEl (show k < cur.length by omega)
      refine L_storeElV u1 rfl rfl pk rfl hu0 rfl (flat_int (h1.2.2.1 _ (List.mem_of_getElem? hu1))) (.inr ⟨one3.h, rfl⟩) ?_
      refine s3 ?_
      refine L_binV rfl rfl rfl (bv_addR (by unfold inR; omega)) ?_
      refine s2 ?_
      refine ⟨(k + 1, cur.set k u1), sb, ms, ?_, ?_⟩
      · exact ⟨by dsimp only; omega, by simpa using hlen, map_take_set GT.dat GT.dat hdat (by omega) hu1 rfl⟩
      · dsimp only; omega
    · refine W_exit ?_
      refine s6 ?_
      -- return 1 (R6)
      refine res1 rfl (ResOK.tmp rfl) ⟨⟨some ⟨g, 0, none⟩, x1.length, 3, cur, []⟩, ?_, ?_, rfl⟩ ms
      · show _ = Value.slice _ cur.length _
        rw [hlen]
      · have hk2 : x1.length ≤ k := by simpa using hc3
        rw [List.take_of_length_le (by omega), List.take_of_length_le (by omega)] at hdat
        exact hdat
end Go.Proofs.SL
namespace Go.Proofs.SL
open Go
set_option maxHeartbeats 2000000
instance fld62_0 : FldF Tryz.prog 62 0 0 := ⟨by kernel_rfl⟩
instance fld62_1 : FldF Tryz.prog 62 1 1 := ⟨by kernel_rfl⟩
instance fn91 : FnF Tryz.prog 91 := ⟨⟨_, Tryz.func91, by kernel_rfl, rfl⟩⟩
instance el66 : ElF Tryz.prog 66 62 2 16 [.int .i64 0, .int .i64 0] := ⟨by kernel_rfl⟩
instance agg62 : AggF Tryz.prog 62 2 := ⟨by kernel_rfl⟩
instance fn72 : FnF Tryz.prog 72 := ⟨⟨_, Tryz.func72, by kernel_rfl, rfl⟩⟩
instance fn134 : FnF Tryz.prog 134 := ⟨⟨_, Tryz.func134, by kernel_rfl, rfl⟩⟩
instance fld65_3 : FldF Tryz.prog 65 3 3 := ⟨by kernel_rfl⟩
instance fld65_4 : FldF Tryz.prog 65 4 4 := ⟨by kernel_rfl⟩
instance fld65_5 : FldF Tryz.prog 65 5 5 := ⟨by kernel_rfl⟩
instance fld65_7 : FldF Tryz.prog 65 7 7 := ⟨by kernel_rfl⟩
instance fn108 : FnF Tryz.prog 108 := ⟨⟨_, Tryz.func108, by kernel_rfl, rfl⟩⟩
instance fld65_0 : FldF Tryz.prog 65 0 0 := ⟨by kernel_rfl⟩
instance fld65_1 : FldF Tryz.prog 65 1 1 := ⟨by kernel_rfl⟩
instance fld65_2 : FldF Tryz.prog 65 2 2 := ⟨by kernel_rfl⟩
instance fld65_6 : FldF Tryz.prog 65 6 6 := ⟨by kernel_rfl⟩
instance fn117 : FnF Tryz.prog 117 := ⟨⟨_, Tryz.func117, by kernel_rfl, rfl⟩⟩
instance fn52 : FnF Tryz.prog 52 := ⟨⟨_, Tryz.func52, by kernel_rfl, rfl⟩⟩
theorem eqId_spec (w : World) (t1 t2 : T_Id) (h1 : GT.rd w [] t1) (h2 : GT.rd w [] t2) : Spec Tryz.prog 91 [.agg (GT.cells t1).toArray, .agg (GT.cells t2).toArray].toArray w [] (IsV (.bool (eqB (GT.dat t1) (GT.dat t2)))) := by
  obtain ⟨a1, a2⟩ := t1
  obtain ⟨b1, b2⟩ := t2
  change Spec _ _ [Value.agg #[.int .i64 a1, .int .i64 a2], Value.agg #[.int .i64 b1, .int .i64 b2]].toArray w [] _
  refine Spec.intro Tryz.func91 rfl Tryz.ntmps91 rfl ?_
  refine s2 ?_
  refine bx fun bk2 => ?_
  refine bx fun bk3 => ?_
  refine s6 ?_
  refine L_load rfl rfl (by first | exact RdC.blk mm) one3.h rfl ?_
  refine s1 ?_
  refine L_load rfl rfl (by first | exact RdC.blk mm) one3.h rfl ?_
  refine s2 ?_
  refine kp [2, 3, 9] ?_
  refine W_cond rfl (fun hc1 => ?_) (fun hc1 => ?_)
  · refine s5 ?_
    -- return 1 (R2)
    refine res1 rfl (ResOK.tmp rfl) ⟨?_, rfl⟩ ms
    clear h1 h2
    first
      | (refine congrArg Value.bool (Eq.symm (eqB_false.2 fun e => ?_)); try simp only [dat_pair, dat_int, dat_bool, dat_str, Prod.mk.injEq] at e; simp_all; done)
      | (refine congrArg Value.bool (Eq.symm (eqB_true.2 ?_)); try simp only [dat_pair, dat_int, dat_bool, dat_str, Prod.mk.injEq]; simp_all; done)
  · refine s5 ?_
    refine L_load rfl rfl (by first | exact RdC.blk mm) one3.h rfl ?_
    refine s1 ?_
    refine L_load rfl rfl (by first | exact RdC.blk mm) one3.h rfl ?_
    refine s2 ?_
    refine kp [14] ?_
    refine W_cond rfl (fun hc3 => ?_) (fun hc3 => ?_)
    · refine s5 ?_
      -- return 2 (R4)
      refine res1 rfl (ResOK.tmp rfl) ⟨?_, rfl⟩ ms
      clear h1 h2
      first
        | (refine congrArg Value.bool (Eq.symm (eqB_false.2 fun e => ?_)); try simp only [dat_pair, dat_int, dat_bool, dat_str, Prod.mk.injEq] at e; simp_all; done)
        | (refine congrArg Value.bool (Eq.symm (eqB_true.2 ?_)); try simp only [dat_pair, dat_int, dat_bool, dat_str, Prod.mk.injEq]; simp_all; done)
    · refine s6 ?_
      -- return 3 (R5)
      refine res1 rfl (ResOK.tmp rfl) ⟨?_, rfl⟩ ms
      clear h1 h2
      first
        | (refine congrArg Value.bool (Eq.symm (eqB_false.2 fun e => ?_)); try simp only [dat_pair, dat_int, dat_bool, dat_str, Prod.mk.injEq] at e; simp_all; done)
        | (refine congrArg Value.bool (Eq.symm (eqB_true.2 ?_)); try simp only [dat_pair, dat_int, dat_bool, dat_str, Prod.mk.injEq]; simp_all; done)
theorem toId_spec (w : World) (t1 : T_Id) (h1 : GT.rd w [] t1) (hb : Bk.bulk t1 ≤ 1048576) : Spec Tryz.prog 72 [.agg (GT.cells t1).toArray].toArray w [] (fun v M => ∃ t2 : T_Id, v = .agg (GT.cells t2).toArray ∧ GT.dat t2 = GT.dat t1 ∧ M = [treeH t2]) := by
  obtain ⟨a1, a2⟩ := t1
  change Spec _ _ [Value.agg #[.int .i64 a1, .int .i64 a2]].toArray w [] _
  refine Spec.intro Tryz.func72 rfl Tryz.ntmps72 rfl ?_
  refine s2 ?_
  refine bx fun bk1 => ?_
  refine al fun bk2 => ?_
  refine s3 ?_
  refine al fun bk3 => ?_
  refine s4 ?_
  refine L_load rfl rfl (by first | exact RdC.blk mm) one3.h rfl ?_
  refine s6 ?_
  refine L_load rfl rfl (by first | exact RdC.blk mm) one3.h rfl ?_
  refine s5 ?_
  refine L_loadW rfl rfl (by first | exact RdC.blk mm) (by exact agg71.h) ?_
  refine L_storeW rfl rfl pk (by exact agg71.h) (by rfl) (by first | (simp [Value.oneCell', TL.hdr]; done) | (simp [Value.oneCell', TL.hdr, Value.cells]; done) | exact fun v hv => GT.one _ v hv) ?_
  refine s1 ?_
  refine W_conv (M' := treeH ((a1, a2) : T_Id) :: _) (fun w h => (tree_snd (flat_int (h1.1)) (h.addFlat (flat_int (h1.2))))) ?_
  refine s1 ?_
  -- return 1 (R4)
  refine res1 rfl (ResOK.cell rfl mm (by exact agg71.h)) ⟨(a1, a2), rfl, by simp only [dat_pair], rfl⟩ ms
theorem eqIdS_spec (w : World) (t1 t2 : TL T_Id) (h1 : GT.rd w [] t1) (h2 : GT.rd w [] t2) : Spec Tryz.prog 93 [t1.hdr, t2.hdr].toArray w [] (IsV (.bool (eqB (GT.dat t1) (GT.dat t2)))) := by
  obtain ⟨a1, c1, e1, x1, y1⟩ := t1
  obtain ⟨a2, c2, e2, x2, y2⟩ := t2
  have hm1 : x1.length ≤ 9223372036854775807 := rd_len h1
  have hm2 : x2.length ≤ 9223372036854775807 := rd_len h2
  dsimp only [TL.hdr]
  refine Spec.intro Tryz.func93 rfl Tryz.ntmps93 rfl ?_
  refine s8 ?_
  refine L_lenS rfl rfl el51.h ?_
  refine s1 ?_
  refine L_lenS rfl rfl el51.h ?_
  refine s2 ?_
  refine kp [0, 1, 10] ?_
  refine W_cond rfl (fun hc1 => ?_) (fun hc1 => ?_)
  · refine s5 ?_
    -- return 1 (R2)
    refine res1 rfl (ResOK.tmp rfl) ⟨?_, rfl⟩ ms
    refine congrArg Value.bool (Eq.symm (eqB_false.2 fun e => ?_))
    simp at hc1
    exact hc1 (by have := congrArg List.length e; simp [dat_TL] at this; omega)
  · have hl : x1.length = x2.length := by simp at hc1; omega
    refine s7 ?_
    refine W_loopC (σ := Nat) 0 (fun (k : Nat) => [(5, .int .i64 (k : Int))]) (fun (k : Nat) => []) (fun (k : Nat) => k ≤ x1.length ∧ (x1.map GT.dat).take k = (x2.map GT.dat).take k) (fun (k : Nat) => x1.length - k) [(0, _), (1, _)] [] ?_ sb ms ?_
    · exact ⟨Nat.zero_le _, rfl⟩
    · rintro k ⟨hk, ht⟩
      refine kq [0, 1, 5] ?_
      refine s5 ?_
      refine L_lenS rfl rfl el51.h ?_
      refine s2 ?_
      refine kp [0, 1, 5, 14] ?_
      refine W_cond rfl (fun hc4 => ?_) (fun hc4 => ?_)
      · have hk1 : k < x1.length := by simpa using hc4
        obtain ⟨g1, o1, rfl⟩ := rd_addr h1 hk1
        obtain ⟨g2, o2, rfl⟩ := rd_addr (k := k) h2 (show k < x2.length by omega)
        obtain ⟨u1, hu1⟩ := getEl hk1
        obtain ⟨u2, hu2⟩ := getEl (show k < x2.length by omega)
        refine s4 ?_
        refine W_D0 [26] mix (by kernel_rfl) rfl ?_
        refine s2 ?_
        refine D_indexAddr _ GC.none (OpV.t rfl) (OpV.t rfl) el51.h (fun hg => ⟨rfl, by (try dsimp only); omega⟩) ?_
        refine D_loadW GC.none (OpV.t rfl) (fun hg => (by first | exact RdC.blk mm | exact RdC.old (Cells.el h1 rfl hu1) | exact RdC.old (Cells.el h2 rfl hu2))) (by exact agg71.h) ?_
        refine s2 ?_
        refine D_indexAddr _ GC.none (OpV.t rfl) (OpV.t rfl) el51.h (fun hg => ⟨rfl, by (try dsimp only); omega⟩) ?_
        refine D_loadW GC.none (OpV.t rfl) (fun hg => (by first | exact RdC.blk mm | exact RdC.old (Cells.el h1 rfl hu1) | exact RdC.old (Cells.el h2 rfl hu2))) (by exact agg71.h) ?_
        refine D_callX GC.none fn91.h (OpVs.cons (OpV.t rfl) (OpVs.cons (OpV.t rfl) (OpVs.nil))) (by exact fun hg w F hF hM => (fun w hw => eqId_spec w _ _ (rd_carry (h1.2.2.1 _ (List.mem_of_getElem? hu1)) hw) (rd_carry (h2.2.2.1 _ (List.mem_of_getElem? hu2)) hw)) w hF) ?_
        refine s13 ?_
        refine kp [0, 1, 5, 26] ?_
        refine W_cond rfl (fun hc6 => ?_) (fun hc6 => ?_)
        · refine s5 ?_
          -- return 2 (R7)
          refine res1 rfl (ResOK.tmp rfl) ⟨?_, rfl⟩ ms
          refine congrArg Value.bool (Eq.symm (eqB_false.2 fun e => ?_))
          simp at hc6
          replace e : x1.map GT.dat = x2.map GT.dat := e
          have e2 := congrArg (fun l => l[k]?) e
          simp only [List.getElem?_map, hu1, hu2, Option.map_some, Option.some.injEq] at e2
          exact hc6 (by simpa [dat_int, dat_str, dat_bool] using e2)
        · refine s3 ?_
          refine L_binV rfl rfl rfl (bv_addR (by unfold inR; omega)) ?_
          refine s2 ?_
          refine ⟨k + 1, sb, ms, ?_, ?_⟩
          · exact ⟨by omega, take_succ_eq ht (by rw [List.getElem?_map, hu1]; rfl) (by rw [List.getElem?_map, hu2]; rfl) (by simpa [dat_int, dat_str, dat_bool] using hc6)⟩
          · (try dsimp only); omega
      · refine W_exit ?_
        refine s5 ?_
        -- return 3 (R8)
        refine res1 rfl (ResOK.tmp rfl) ⟨?_, rfl⟩ ms
        refine congrArg Value.bool (Eq.symm (eqB_true.2 ?_))
        have hk2 : x1.length ≤ k := by simpa using hc4
        have h3 := ht
        rw [List.take_of_length_le (by simp; omega), List.take_of_length_le (by simp; omega)] at h3
        exact h3
theorem szIdS_spec (w : World) (t1 : TL T_Id) (left : Int) (hl : 0 ≤ left) (hm : left ≤ 1048576) (h1 : GT.rd w [] t1) (ho : Ok.ok (GT.dat t1)) : Spec Tryz.prog 58 [t1.hdr, .int .i64 left].toArray w [] (IsV (.int .i64 (if (Bk.bulk t1 : Int) ≤ left then left - (Bk.bulk t1 : Int) else -1))) := by
  obtain ⟨a1, c1, e1, x1, y1⟩ := t1
  have hm1 : x1.length ≤ 9223372036854775807 := rd_len h1
  rw [bulk_TL]
  dsimp only [TL.hdr]
  have hz : bulks x1 = 0 := by
    clear hm1 h1 ho
    induction x1 with
    | nil => rfl
    | cons y ys ih => simp only [bulks, ih]; rfl
  refine Spec.intro Tryz.func58 rfl Tryz.ntmps58 rfl ?_
  refine s8 ?_
  refine L_lenS rfl rfl el66.h ?_
  refine L_binV rfl rfl rfl (bv_subR (by unfold inR; omega)) ?_
  refine s8 ?_
  refine kp [1, 10] ?_
  refine W_cond rfl (fun hc2 => ?_) (fun hc2 => ?_)
  · have hb0 : left - (x1.length : Int) < 0 := by simpa using hc2
    refine s5 ?_
    -- return 1 (R3)
    refine res1 rfl (ResOK.tmp rfl) ⟨?_, rfl⟩ ms
    simp only [hz, Nat.add_zero]
    first
      | (rw [if_pos (by omega)]; done)
      | (rw [if_neg (by omega)])
  · have hb0 : ¬ (left - (x1.length : Int) < 0) := by simpa using hc2
    skip
    refine s7 ?_
    -- return 2 (R4)
    refine res1 rfl (ResOK.tmp rfl) ⟨?_, rfl⟩ ms
    simp only [hz, Nat.add_zero]
    first
      | (rw [if_pos (by omega)]; done)
      | (rw [if_neg (by omega)])
theorem toIdS_spec (w : World) (t1 : TL T_Id) (h1 : GT.rd w [] t1) (hb : Bk.bulk t1 ≤ 1048576) : Spec Tryz.prog 74 [t1.hdr].toArray w [] (fun v M => ∃ t2 : TL T_Id, v = t2.hdr ∧ GT.dat t2 = GT.dat t1 ∧ M = [treeH t2]) := by
  obtain ⟨a1, c1, e1, x1, y1⟩ := t1
  rw [bulk_TL] at hb
  dsimp only [TL.hdr]
  refine Spec.intro Tryz.func74 rfl Tryz.ntmps74 rfl ?_
  refine s7 ?_
  refine L_lenS rfl rfl el66.h ?_
  refine L_make (τ := T_Id) ((0 : Int), (0 : Int)) rfl rfl rfl el51.h rfl rfl (flat_pair (flat_int trivial) (flat_int trivial)) (by omega) (by unfold maxLen; omega) (fun g => ?_)
  refine s8 ?_
  refine W_loopC (σ := Nat × List T_Id) (0, List.replicate x1.length ((0 : Int), (0 : Int))) (fun (p : Nat × List T_Id) => [(4, .int .i64 (p.1 : Int))]) (fun (p : Nat × List T_Id) => [treeH (⟨some ⟨g, 0, none⟩, x1.length, 71, p.2, []⟩ : TL T_Id)]) (fun (p : Nat × List T_Id) => p.1 ≤ x1.length ∧ p.2.length = x1.length ∧ (p.2.take p.1).map GT.dat = (x1.take p.1).map GT.dat) (fun (p : Nat × List T_Id) => x1.length - p.1) [(0, _), (3, _)] [] ?_ sb ms ?_
  · exact ⟨Nat.zero_le _, by simp, by simp⟩
  · rintro ⟨k, cur⟩ ⟨hk, hlen, hdat⟩
    dsimp only at hk hlen hdat
    refine kq [0, 3, 4] ?_
    refine s5 ?_
    refine L_lenS rfl rfl el66.h ?_
    refine s2 ?_
    refine kp [0, 3, 4, 11] ?_
    refine W_cond rfl (fun hc3 => ?_) (fun hc3 => ?_)
    · have hk1 : k < x1.length := by simpa using hc3
      obtain ⟨g1, o1, rfl⟩ := rd_addr h1 hk1
      obtain ⟨u1, hu1⟩ := getEl hk1
      have hub : Bk.bulk u1 ≤ 1048576 := by have := bulk_mem (List.mem_of_getElem? hu1); omega
      refine s8 ?_
      refine L_indexAddr rfl rfl rfl el66.h rfl (by omega) ?_
      refine L_loadW rfl rfl (by first | exact RdC.blk mm | exact RdC.old (Cells.el h1 rfl hu1)) (by exact agg62.h) ?_
      refine L_callR rfl fn72.h rfl (by exact fun w hw => toId_spec w _ (rd_carry (h1.2.2.1 _ (List.mem_of_getElem? hu1)) hw) hub) ?_
      rintro v M1 ⟨u2, hv, hd, rfl⟩
      subst hv
      simp only [List.cons_append, List.nil_append]
      refine L_indexAddr rfl rfl rfl el51.h rfl (by omega) ?_
      obtain ⟨u0, hu0⟩ := getEl (show k < cur.length by omega)
      refine L_storeEl u2 rfl rfl pk rfl hu0 rfl pk (.inl agg71.h) ?_
      refine s3 ?_
      refine L_binV rfl rfl rfl (bv_addR (by unfold inR; omega)) ?_
      refine s2 ?_
      refine ⟨(k + 1, cur.set k u2), sb, ms, ?_, ?_⟩
      · exact ⟨by dsimp only; omega, by simpa using hlen, map_take_set GT.dat GT.dat hdat (by omega) hu1 hd⟩
      · dsimp only; omega
    · refine W_exit ?_
      refine s6 ?_
      -- return 1 (R6)
      refine res1 rfl (ResOK.tmp rfl) ⟨⟨some ⟨g, 0, none⟩, x1.length, 71, cur, []⟩, ?_, ?_, rfl⟩ ms
      · show _ = Value.slice _ cur.length _
        rw [hlen]
      · have hk2 : x1.length ≤ k := by simpa using hc3
        rw [List.take_of_length_le (by omega), List.take_of_length_le (by omega)] at hdat
        exact hdat
theorem eqStringS_spec (w : World) (t1 t2 : TL ByteArray) (h1 : GT.rd w [] t1) (h2 : GT.rd w [] t2) : Spec Tryz.prog 134 [t1.hdr, t2.hdr].toArray w [] (IsV (.bool (eqB (GT.dat t1) (GT.dat t2)))) := by
  obtain ⟨a1, c1, e1, x1, y1⟩ := t1
  obtain ⟨a2, c2, e2, x2, y2⟩ := t2
  have hm1 : x1.length ≤ 9223372036854775807 := rd_len h1
  have hm2 : x2.length ≤ 9223372036854775807 := rd_len h2
  dsimp only [TL.hdr]
  refine Spec.intro Tryz.func134 rfl Tryz.ntmps134 rfl ?_
  refine s8 ?_
  refine L_lenS rfl rfl el63.h ?_
  refine s1 ?_
  refine L_lenS rfl rfl el63.h ?_
  refine s2 ?_
  refine kp [0, 1, 10] ?_
  refine W_cond rfl (fun hc1 => ?_) (fun hc1 => ?_)
  · refine s5 ?_
    -- return 1 (R2)
    refine res1 rfl (ResOK.tmp rfl) ⟨?_, rfl⟩ ms
    refine congrArg Value.bool (Eq.symm (eqB_false.2 fun e => ?_))
    simp at hc1
    exact hc1 (by have := congrArg List.length e; simp [dat_TL] at this; omega)
  · have hl : x1.length = x2.length := by simp at hc1; omega
    refine s7 ?_
    refine W_loopC (σ := Nat) 0 (fun (k : Nat) => [(5, .int .i64 (k : Int))]) (fun (k : Nat) => []) (fun (k : Nat) => k ≤ x1.length ∧ (x1.map GT.dat).take k = (x2.map GT.dat).take k) (fun (k : Nat) => x1.length - k) [(0, _), (1, _)] [] ?_ sb ms ?_
    · exact ⟨Nat.zero_le _, rfl⟩
    · rintro k ⟨hk, ht⟩
      refine kq [0, 1, 5] ?_
      refine s5 ?_
      refine L_lenS rfl rfl el63.h ?_
      refine s2 ?_
      refine kp [0, 1, 5, 14] ?_
      refine W_cond rfl (fun hc4 => ?_) (fun hc4 => ?_)
      · have hk1 : k < x1.length := by simpa using hc4
        obtain ⟨g1, o1, rfl⟩ := rd_addr h1 hk1
        obtain ⟨g2, o2, rfl⟩ := rd_addr (k := k) h2 (show k < x2.length by omega)
        obtain ⟨u1, hu1⟩ := getEl hk1
        obtain ⟨u2, hu2⟩ := getEl (show k < x2.length by omega)
        refine s4 ?_
        refine W_D0 [25] mix (by kernel_rfl) rfl ?_
        refine s2 ?_
        refine D_indexAddr _ GC.none (OpV.t rfl) (OpV.t rfl) el63.h (fun hg => ⟨rfl, by (try dsimp only); omega⟩) ?_
        refine D_load0 GC.none (OpV.t rfl) (fun hg => (by first | exact RdC.blk mm | exact RdC.old (Cells.el h1 rfl hu1) | exact RdC.old (Cells.el h2 rfl hu2))) one9.h rfl ?_
        refine s2 ?_
        refine D_indexAddr _ GC.none (OpV.t rfl) (OpV.t rfl) el63.h (fun hg => ⟨rfl, by (try dsimp only); omega⟩) ?_
        refine D_load0 GC.none (OpV.t rfl) (fun hg => (by first | exact RdC.blk mm | exact RdC.old (Cells.el h1 rfl hu1) | exact RdC.old (Cells.el h2 rfl hu2))) one9.h rfl ?_
        refine s12 ?_
        refine kp [0, 1, 5, 25] ?_
        refine W_cond rfl (fun hc6 => ?_) (fun hc6 => ?_)
        · refine s5 ?_
          -- return 2 (R7)
          refine res1 rfl (ResOK.tmp rfl) ⟨?_, rfl⟩ ms
          refine congrArg Value.bool (Eq.symm (eqB_false.2 fun e => ?_))
          simp at hc6
          replace e : x1.map GT.dat = x2.map GT.dat := e
          have e2 := congrArg (fun l => l[k]?) e
          simp only [List.getElem?_map, hu1, hu2, Option.map_some, Option.some.injEq] at e2
          exact hc6 (by simpa [dat_int, dat_str, dat_bool] using e2)
        · refine s3 ?_
          refine L_binV rfl rfl rfl (bv_addR (by unfold inR; omega)) ?_
          refine s2 ?_
          refine ⟨k + 1, sb, ms, ?_, ?_⟩
          · exact ⟨by omega, take_succ_eq ht (by rw [List.getElem?_map, hu1]; rfl) (by rw [List.getElem?_map, hu2]; rfl) (by simpa [dat_int, dat_str, dat_bool] using hc6)⟩
          · (try dsimp only); omega
      · refine W_exit ?_
        refine s5 ?_
        -- return 3 (R8)
        refine res1 rfl (ResOK.tmp rfl) ⟨?_, rfl⟩ ms
        refine congrArg Value.bool (Eq.symm (eqB_true.2 ?_))
        have hk2 : x1.length ≤ k := by simpa using hc4
        have h3 := ht
        rw [List.take_of_length_le (by simp; omega), List.take_of_length_le (by simp; omega)] at h3
        exact h3
theorem szStringS_spec (w : World) (t1 : TL ByteArray) (left : Int) (hl : 0 ≤ left) (hm : left ≤ 1048576) (h1 : GT.rd w [] t1) (ho : Ok.ok (GT.dat t1)) : Spec Tryz.prog 108 [t1.hdr, .int .i64 left].toArray w [] (IsV (.int .i64 (if (Bk.bulk t1 : Int) ≤ left then left - (Bk.bulk t1 : Int) else -1))) := by
  obtain ⟨a1, c1, e1, x1, y1⟩ := t1
  have hm1 : x1.length ≤ 9223372036854775807 := rd_len h1
  rw [bulk_TL]
  dsimp only [TL.hdr]
  refine Spec.intro Tryz.func108 rfl Tryz.ntmps108 rfl ?_
  refine s8 ?_
  refine L_lenS rfl rfl el63.h ?_
  refine L_binV rfl rfl rfl (bv_subR (by unfold inR; omega)) ?_
  refine s8 ?_
  refine kp [0, 1, 11] ?_
  refine W_cond rfl (fun hc2 => ?_) (fun hc2 => ?_)
  · have hb0 : left - (x1.length : Int) < 0 := by simpa using hc2
    refine s5 ?_
    -- return 1 (R3)
    refine res1 rfl (ResOK.tmp rfl) ⟨?_, rfl⟩ ms
    first
      | (rw [if_neg (by simp only [Int.natCast_add]; omega)]; done)
      | (rw [if_neg (by have := bulks_take_le x1 (k + 1); simp only [Int.natCast_add]; omega)]; done)
      | (have hk2 : x1.length ≤ k := by simpa using hc5
         rw [List.take_of_length_le hk2] at ht ⊢
         rw [if_pos (by simp only [Int.natCast_add]; omega)]; congr 1; simp only [Int.natCast_add]; omega)
  · have hb0 : ¬ (left - (x1.length : Int) < 0) := by simpa using hc2
    refine s7 ?_
    have h0 : left - (x1.length : Int) = left - (x1.length : Int) - (bulks (x1.take 0) : Int) := by simp [bulks]
    rw [h0]
    refine W_loopC (σ := Nat) 0 (fun (k : Nat) => [(1, .int .i64 (left - (x1.length : Int) - (bulks (x1.take k) : Int))), (5, .int .i64 (k : Int))]) (fun (k : Nat) => []) (fun (k : Nat) => k ≤ x1.length ∧ 0 ≤ (left - (x1.length : Int) - (bulks (x1.take k) : Int))) (fun (k : Nat) => x1.length - k) [(0, _)] [] ?_ sb ms ?_
    · exact ⟨Nat.zero_le _, by simp [bulks]; omega⟩
    · rintro k ⟨hk, ht⟩
      refine kq [0, 1, 5] ?_
      refine s5 ?_
      refine L_lenS rfl rfl el63.h ?_
      refine s2 ?_
      refine kp [0, 1, 5, 15] ?_
      refine W_cond rfl (fun hc5 => ?_) (fun hc5 => ?_)
      · have hk1 : k < x1.length := by simpa using hc5
        obtain ⟨g1, o1, rfl⟩ := rd_addr h1 hk1
        obtain ⟨u1, hu1⟩ := getEl hk1
        have hbs := bulks_take_succ hu1
        have hble := bulks_take_le x1 (k + 1)
        have hus : u1.size ≤ 9223372036854775807 := ho.2 _ (List.mem_map.2 ⟨u1, List.mem_of_getElem? hu1, rfl⟩)
        rw [bulk_str] at hbs
        refine s8 ?_
        refine L_indexAddr rfl rfl rfl el63.h rfl (by omega) ?_
        refine L_load0 rfl rfl (by first | exact RdC.blk mm | exact RdC.old (Cells.el h1 rfl hu1)) one9.h rfl ?_
        refine s1 ?_
        refine L_binV rfl rfl rfl (bv_subR (by unfold inR; omega)) ?_
        refine s7 ?_
        refine kp [0, 1, 5, 26] ?_
        refine W_cond rfl (fun hc8 => ?_) (fun hc8 => ?_)
        · have hb1 : (left - (x1.length : Int) - (bulks (x1.take k) : Int)) - (u1.size : Int) < 0 := by simpa using hc8
          refine s5 ?_
          -- return 2 (R9)
          refine res1 rfl (ResOK.tmp rfl) ⟨?_, rfl⟩ ms
          first
            | (rw [if_neg (by simp only [Int.natCast_add]; omega)]; done)
            | (rw [if_neg (by have := bulks_take_le x1 (k + 1); simp only [Int.natCast_add]; omega)]; done)
            | (have hk2 : x1.length ≤ k := by simpa using hc5
               rw [List.take_of_length_le hk2] at ht ⊢
               rw [if_pos (by simp only [Int.natCast_add]; omega)]; congr 1; simp only [Int.natCast_add]; omega)
        · have hb1 : ¬ ((left - (x1.length : Int) - (bulks (x1.take k) : Int)) - (u1.size : Int) < 0) := by simpa using hc8
          have hnx : (left - (x1.length : Int) - (bulks (x1.take k) : Int)) - (u1.size : Int) = left - (x1.length : Int) - (bulks (x1.take (k + 1)) : Int) := by rw [hbs]; omega
          rw [hnx]
          refine s3 ?_
          refine L_binV rfl rfl rfl (bv_addR (by unfold inR; omega)) ?_
          refine s2 ?_
          refine ⟨k + 1, sb, ms, ?_, ?_⟩
          · exact ⟨by omega, by omega⟩
          · (try dsimp only); omega
      · refine W_exit ?_
        refine s6 ?_
        -- return 3 (R10)
        refine res1 rfl (ResOK.tmp rfl) ⟨?_, rfl⟩ ms
        first
          | (rw [if_neg (by simp only [Int.natCast_add]; omega)]; done)
          | (rw [if_neg (by have := bulks_take_le x1 (k + 1); simp only [Int.natCast_add]; omega)]; done)
          | (have hk2 : x1.length ≤ k := by simpa using hc5
             rw [List.take_of_length_le hk2] at ht ⊢
             rw [if_pos (by simp only [Int.natCast_add]; omega)]; congr 1; simp only [Int.natCast_add]; omega)
theorem toStringS_spec (w : World) (t1 : TL ByteArray) (h1 : GT.rd w [] t1) (hb : Bk.bulk t1 ≤ 1048576) : Spec Tryz.prog 117 [t1.hdr].toArray w [] (fun v M => ∃ t2 : TL ByteArray, v = t2.hdr ∧ GT.dat t2 = GT.dat t1 ∧ M = [treeH t2]) := by
  obtain ⟨a1, c1, e1, x1, y1⟩ := t1
  rw [bulk_TL] at hb
  dsimp only [TL.hdr]
  refine Spec.intro Tryz.func117 rfl Tryz.ntmps117 rfl ?_
  refine s7 ?_
  refine L_lenS rfl rfl el63.h ?_
  refine L_make (τ := ByteArray) ByteArray.empty rfl rfl rfl el63.h rfl rfl (flat_str trivial) (by omega) (by unfold maxLen; omega) (fun g => ?_)
  refine s8 ?_
  refine W_loopC (σ := Nat × List ByteArray) (0, List.replicate x1.length ByteArray.empty) (fun (p : Nat × List ByteArray) => [(4, .int .i64 (p.1 : Int))]) (fun (p : Nat × List ByteArray) => [treeH (⟨some ⟨g, 0, none⟩, x1.length, 9, p.2, []⟩ : TL ByteArray)]) (fun (p : Nat × List ByteArray) => p.1 ≤ x1.length ∧ p.2.length = x1.length ∧ (p.2.take p.1).map GT.dat = (x1.take p.1).map GT.dat) (fun (p : Nat × List ByteArray) => x1.length - p.1) [(0, _), (3, _)] [] ?_ sb ms ?_
  · exact ⟨Nat.zero_le _, by simp, by simp⟩
  · rintro ⟨k, cur⟩ ⟨hk, hlen, hdat⟩
    dsimp only at hk hlen hdat
    refine kq [0, 3, 4] ?_
    refine s5 ?_
    refine L_lenS rfl rfl el63.h ?_
    refine s2 ?_
    refine kp [0, 3, 4, 11] ?_
    refine W_cond rfl (fun hc3 => ?_) (fun hc3 => ?_)
    · have hk1 : k < x1.length := by simpa using hc3
      obtain ⟨g1, o1, rfl⟩ := rd_addr h1 hk1
      obtain ⟨u1, hu1⟩ := getEl hk1
      have hub : Bk.bulk u1 ≤ 1048576 := by have := bulk_mem (List.mem_of_getElem? hu1); omega
      refine s8 ?_
      refine L_indexAddr rfl rfl rfl el63.h rfl (by omega) ?_
      refine L_load0 rfl rfl (by first | exact RdC.blk mm | exact RdC.old (Cells.el h1 rfl hu1)) one9.h rfl ?_
      refine L_indexAddr rfl rfl rfl el63.h rfl (by omega) ?_
      obtain ⟨u0, hu0⟩ := getEl (show k < cur.length by omega)
      refine L_storeElV u1 rfl rfl pk rfl hu0 rfl (flat_str (h1.2.2.1 _ (List.mem_of_getElem? hu1))) (.inr ⟨one9.h, rfl⟩) ?_
      refine s3 ?_
      refine L_binV rfl rfl rfl (bv_addR (by unfold inR; omega)) ?_
      refine s2 ?_
      refine ⟨(k + 1, cur.set k u1), sb, ms, ?_, ?_⟩
      · exact ⟨by dsimp only; omega, by simpa using hlen, map_take_set GT.dat GT.dat hdat (by omega) hu1 rfl⟩
      · dsimp only; omega
    · refine W_exit ?_
      refine s6 ?_
      -- return 1 (R6)
      refine res1 rfl (ResOK.tmp rfl) ⟨⟨some ⟨g, 0, none⟩, x1.length, 9, cur, []⟩, ?_, ?_, rfl⟩ ms
      · show _ = Value.slice _ cur.length _
        rw [hlen]
      · have hk2 : x1.length ≤ k := by simpa using hc3
        rw [List.take_of_length_le (by omega), List.take_of_length_le (by omega)] at hdat
        exact hdat
theorem eqCmd_spec (w : World) (t1 t2 : T_Cmd) (h1 : GT.rd w [] t1) (h2 : GT.rd w [] t2) : Spec Tryz.prog 92 [.agg (GT.cells t1).toArray, .agg (GT.cells t2).toArray].toArray w [] (IsV (.bool (eqB (GT.dat t1) (GT.dat t2)))) := by
  obtain ⟨a1, a2, a3, a4, a5, a6, a7, a8⟩ := t1
  obtain ⟨b1, b2, b3, b4, b5, b6, b7, b8⟩ := t2
  change Spec _ _ [Value.agg #[.int .i64 a1, .int .i64 a2, .int .i64 a3, .string a4, .string a5, .string a6, .int .i64 a7, a8.hdr], Value.agg #[.int .i64 b1, .int .i64 b2, .int .i64 b3, .string b4, .string b5, .string b6, .int .i64 b7, b8.hdr]].toArray w [] _
  refine Spec.intro Tryz.func92 rfl Tryz.ntmps92 rfl ?_
  refine s2 ?_
  refine bx fun bk2 => ?_
  refine bx fun bk3 => ?_
  refine s6 ?_
  refine L_load rfl rfl (by first | exact RdC.blk mm) one3.h rfl ?_
  refine s1 ?_
  refine L_load rfl rfl (by first | exact RdC.blk mm) one3.h rfl ?_
  refine s2 ?_
  refine kp [2, 3, 9] ?_
  refine W_cond rfl (fun hc1 => ?_) (fun hc1 => ?_)
  · refine s5 ?_
    -- return 1 (R2)
    refine res1 rfl (ResOK.tmp rfl) ⟨?_, rfl⟩ ms
    clear h1 h2
    first
      | (refine congrArg Value.bool (Eq.symm (eqB_false.2 fun e => ?_)); try simp only [dat_pair, dat_int, dat_bool, dat_str, Prod.mk.injEq] at e; simp_all; done)
      | (refine congrArg Value.bool (Eq.symm (eqB_true.2 ?_)); try simp only [dat_pair, dat_int, dat_bool, dat_str, Prod.mk.injEq]; simp_all; done)
  · refine s5 ?_
    refine L_load rfl rfl (by first | exact RdC.blk mm) one3.h rfl ?_
    refine s1 ?_
    refine L_load rfl rfl (by first | exact RdC.blk mm) one3.h rfl ?_
    refine s2 ?_
    refine kp [2, 3, 14] ?_
    refine W_cond rfl (fun hc3 => ?_) (fun hc3 => ?_)
    · refine s5 ?_
      -- return 2 (R4)
      refine res1 rfl (ResOK.tmp rfl) ⟨?_, rfl⟩ ms
      clear h1 h2
      first
        | (refine congrArg Value.bool (Eq.symm (eqB_false.2 fun e => ?_)); try simp only [dat_pair, dat_int, dat_bool, dat_str, Prod.mk.injEq] at e; simp_all; done)
        | (refine congrArg Value.bool (Eq.symm (eqB_true.2 ?_)); try simp only [dat_pair, dat_int, dat_bool, dat_str, Prod.mk.injEq]; simp_all; done)
    · refine s5 ?_
      refine L_load rfl rfl (by first | exact RdC.blk mm) one3.h rfl ?_
      refine s1 ?_
      refine L_load rfl rfl (by first | exact RdC.blk mm) one3.h rfl ?_
      refine s2 ?_
      refine kp [2, 3, 19] ?_
      refine W_cond rfl (fun hc5 => ?_) (fun hc5 => ?_)
      · refine s5 ?_
        -- return 3 (R6)
        refine res1 rfl (ResOK.tmp rfl) ⟨?_, rfl⟩ ms
        clear h1 h2
        first
          | (refine congrArg Value.bool (Eq.symm (eqB_false.2 fun e => ?_)); try simp only [dat_pair, dat_int, dat_bool, dat_str, Prod.mk.injEq] at e; simp_all; done)
          | (refine congrArg Value.bool (Eq.symm (eqB_true.2 ?_)); try simp only [dat_pair, dat_int, dat_bool, dat_str, Prod.mk.injEq]; simp_all; done)
      · refine s5 ?_
        refine L_load rfl rfl (by first | exact RdC.blk mm) one9.h rfl ?_
        refine s1 ?_
        refine L_load rfl rfl (by first | exact RdC.blk mm) one9.h rfl ?_
        refine s2 ?_
        refine kp [2, 3, 24] ?_
        refine W_cond rfl (fun hc7 => ?_) (fun hc7 => ?_)
        · refine s5 ?_
          -- return 4 (R8)
          refine res1 rfl (ResOK.tmp rfl) ⟨?_, rfl⟩ ms
          clear h1 h2
          first
            | (refine congrArg Value.bool (Eq.symm (eqB_false.2 fun e => ?_)); try simp only [dat_pair, dat_int, dat_bool, dat_str, Prod.mk.injEq] at e; simp_all; done)
            | (refine congrArg Value.bool (Eq.symm (eqB_true.2 ?_)); try simp only [dat_pair, dat_int, dat_bool, dat_str, Prod.mk.injEq]; simp_all; done)
        · refine s5 ?_
          refine L_load rfl rfl (by first | exact RdC.blk mm) one9.h rfl ?_
          refine s1 ?_
          refine L_load rfl rfl (by first | exact RdC.blk mm) one9.h rfl ?_
          refine s2 ?_
          refine kp [2, 3, 29] ?_
          refine W_cond rfl (fun hc9 => ?_) (fun hc9 => ?_)
          · refine s5 ?_
            -- return 5 (R10)
            refine res1 rfl (ResOK.tmp rfl) ⟨?_, rfl⟩ ms
            clear h1 h2
            first
              | (refine congrArg Value.bool (Eq.symm (eqB_false.2 fun e => ?_)); try simp only [dat_pair, dat_int, dat_bool, dat_str, Prod.mk.injEq] at e; simp_all; done)
              | (refine congrArg Value.bool (Eq.symm (eqB_true.2 ?_)); try simp only [dat_pair, dat_int, dat_bool, dat_str, Prod.mk.injEq]; simp_all; done)
          · refine s5 ?_
            refine L_load rfl rfl (by first | exact RdC.blk mm) one9.h rfl ?_
            refine s1 ?_
            refine L_load rfl rfl (by first | exact RdC.blk mm) one9.h rfl ?_
            refine s2 ?_
            refine kp [2, 3, 34] ?_
            refine W_cond rfl (fun hc11 => ?_) (fun hc11 => ?_)
            · refine s5 ?_
              -- return 6 (R12)
              refine res1 rfl (ResOK.tmp rfl) ⟨?_, rfl⟩ ms
              clear h1 h2
              first
                | (refine congrArg Value.bool (Eq.symm (eqB_false.2 fun e => ?_)); try simp only [dat_pair, dat_int, dat_bool, dat_str, Prod.mk.injEq] at e; simp_all; done)
                | (refine congrArg Value.bool (Eq.symm (eqB_true.2 ?_)); try simp only [dat_pair, dat_int, dat_bool, dat_str, Prod.mk.injEq]; simp_all; done)
            · refine s5 ?_
              refine L_load rfl rfl (by first | exact RdC.blk mm) one3.h rfl ?_
              refine s1 ?_
              refine L_load rfl rfl (by first | exact RdC.blk mm) one3.h rfl ?_
              refine s2 ?_
              refine kp [2, 3, 39] ?_
              refine W_cond rfl (fun hc13 => ?_) (fun hc13 => ?_)
              · refine s5 ?_
                -- return 7 (R14)
                refine res1 rfl (ResOK.tmp rfl) ⟨?_, rfl⟩ ms
                clear h1 h2
                first
                  | (refine congrArg Value.bool (Eq.symm (eqB_false.2 fun e => ?_)); try simp only [dat_pair, dat_int, dat_bool, dat_str, Prod.mk.injEq] at e; simp_all; done)
                  | (refine congrArg Value.bool (Eq.symm (eqB_true.2 ?_)); try simp only [dat_pair, dat_int, dat_bool, dat_str, Prod.mk.injEq]; simp_all; done)
              · refine s5 ?_
                refine L_load rfl rfl (by first | exact RdC.blk mm) one63.h rfl ?_
                refine s1 ?_
                refine L_load rfl rfl (by first | exact RdC.blk mm) one63.h rfl ?_
                refine L_callX rfl fn134.h rfl (by exact fun w hw => eqStringS_spec w _ _ (rd_carry (h1.2.2.2.2.2.2.2) hw) (rd_carry (h2.2.2.2.2.2.2.2) hw)) ?_
                refine s2 ?_
                refine kp [45] ?_
                refine W_cond rfl (fun hc15 => ?_) (fun hc15 => ?_)
                · refine s5 ?_
                  -- return 8 (R16)
                  refine res1 rfl (ResOK.tmp rfl) ⟨?_, rfl⟩ ms
                  clear h1 h2
                  first
                    | (refine congrArg Value.bool (Eq.symm (eqB_false.2 fun e => ?_)); try simp only [dat_pair, dat_int, dat_bool, dat_str, Prod.mk.injEq] at e; simp_all; done)
                    | (refine congrArg Value.bool (Eq.symm (eqB_true.2 ?_)); try simp only [dat_pair, dat_int, dat_bool, dat_str, Prod.mk.injEq]; simp_all; done)
                · refine s6 ?_
                  -- return 9 (R17)
                  refine res1 rfl (ResOK.tmp rfl) ⟨?_, rfl⟩ ms
                  clear h1 h2
                  first
                    | (refine congrArg Value.bool (Eq.symm (eqB_false.2 fun e => ?_)); try simp only [dat_pair, dat_int, dat_bool, dat_str, Prod.mk.injEq] at e; simp_all; done)
                    | (refine congrArg Value.bool (Eq.symm (eqB_true.2 ?_)); try simp only [dat_pair, dat_int, dat_bool, dat_str, Prod.mk.injEq]; simp_all; done)
theorem szCmd_spec (w : World) (t1 : T_Cmd) (left : Int) (hl : 0 ≤ left) (hm : left ≤ 1048576) (h1 : GT.rd w [] t1) (ho : Ok.ok (GT.dat t1)) : Spec Tryz.prog 57 [.agg (GT.cells t1).toArray, .int .i64 left].toArray w [] (IsV (.int .i64 (if (Bk.bulk t1 : Int) ≤ left then left - (Bk.bulk t1 : Int) else -1))) := by
  obtain ⟨a1, a2, a3, a4, a5, a6, a7, a8⟩ := t1
  have hs3 : a4.size ≤ 9223372036854775807 := ho.2.2.2.1
  have hs4 : a5.size ≤ 9223372036854775807 := ho.2.2.2.2.1
  have hs5 : a6.size ≤ 9223372036854775807 := ho.2.2.2.2.2.1
  change Spec _ _ [Value.agg #[.int .i64 a1, .int .i64 a2, .int .i64 a3, .string a4, .string a5, .string a6, .int .i64 a7, a8.hdr], .int .i64 left].toArray w [] _
  refine Spec.intro Tryz.func57 rfl Tryz.ntmps57 rfl ?_
  refine s2 ?_
  refine bx fun bk2 => ?_
  refine s6 ?_
  refine L_load rfl rfl (by first | exact RdC.blk mm) one9.h rfl ?_
  refine s1 ?_
  refine L_binV rfl rfl rfl (bv_subR (by unfold inR; omega)) ?_
  refine s8 ?_
  refine kp [1, 2, 11] ?_
  refine W_cond rfl (fun hc2 => ?_) (fun hc2 => ?_)
  · have hb3 : left - (a4.size : Int) < 0 := by simpa using hc2
    refine s5 ?_
    -- return 1 (R3)
    refine res1 rfl (ResOK.tmp rfl) ⟨?_, rfl⟩ ms
    try simp only [bulk_pair, bulk_int, bulk_bool, bulk_str, Int.natCast_add, Int.natCast_zero] at *
    all_goals first
      | rfl
      | (rw [if_pos (by omega)] <;> (congr 1 <;> omega))
      | (rw [if_neg (by omega)])
  · have hb3 : ¬ (left - (a4.size : Int) < 0) := by simpa using hc2
    refine s5 ?_
    refine L_load rfl rfl (by first | exact RdC.blk mm) one9.h rfl ?_
    refine s1 ?_
    refine L_binV rfl rfl rfl (bv_subR (by unfold inR; omega)) ?_
    refine s8 ?_
    refine kp [1, 2, 18] ?_
    refine W_cond rfl (fun hc5 => ?_) (fun hc5 => ?_)
    · have hb4 : left - (a4.size : Int) - (a5.size : Int) < 0 := by simpa using hc5
      refine s5 ?_
      -- return 2 (R6)
      refine res1 rfl (ResOK.tmp rfl) ⟨?_, rfl⟩ ms
      try simp only [bulk_pair, bulk_int, bulk_bool, bulk_str, Int.natCast_add, Int.natCast_zero] at *
      all_goals first
        | rfl
        | (rw [if_pos (by omega)] <;> (congr 1 <;> omega))
        | (rw [if_neg (by omega)])
    · have hb4 : ¬ (left - (a4.size : Int) - (a5.size : Int) < 0) := by simpa using hc5
      refine s5 ?_
      refine L_load rfl rfl (by first | exact RdC.blk mm) one9.h rfl ?_
      refine s1 ?_
      refine L_binV rfl rfl rfl (bv_subR (by unfold inR; omega)) ?_
      refine s8 ?_
      refine kp [1, 2, 25] ?_
      refine W_cond rfl (fun hc8 => ?_) (fun hc8 => ?_)
      · have hb5 : left - (a4.size : Int) - (a5.size : Int) - (a6.size : Int) < 0 := by simpa using hc8
        refine s5 ?_
        -- return 3 (R9)
        refine res1 rfl (ResOK.tmp rfl) ⟨?_, rfl⟩ ms
        try simp only [bulk_pair, bulk_int, bulk_bool, bulk_str, Int.natCast_add, Int.natCast_zero] at *
        all_goals first
          | rfl
          | (rw [if_pos (by omega)] <;> (congr 1 <;> omega))
          | (rw [if_neg (by omega)])
      · have hb5 : ¬ (left - (a4.size : Int) - (a5.size : Int) - (a6.size : Int) < 0) := by simpa using hc8
        refine s4 ?_
        refine L_load rfl rfl (by first | exact RdC.blk mm) one63.h rfl ?_
        refine s1 ?_
        refine L_callX rfl fn108.h rfl (by exact fun w hw => szStringS_spec w _ (left - (a4.size : Int) - (a5.size : Int) - (a6.size : Int)) (by omega) (by omega) (rd_carry (h1.2.2.2.2.2.2.2) hw) ho.2.2.2.2.2.2.2) ?_
        refine s8 ?_
        refine kp [1, 31] ?_
        refine W_cond rfl (fun hc11 => ?_) (fun hc11 => ?_)
        · have hb7 : ¬ ((Bk.bulk a8 : Int) ≤ left - (a4.size : Int) - (a5.size : Int) - (a6.size : Int)) := by
            intro hn
            rw [if_pos hn] at hc11; simp at hc11; omega
          refine s5 ?_
          -- return 4 (R12)
          refine res1 rfl (ResOK.tmp rfl) ⟨?_, rfl⟩ ms
          try simp only [bulk_pair, bulk_int, bulk_bool, bulk_str, Int.natCast_add, Int.natCast_zero] at *
          all_goals first
            | rfl
            | (rw [if_pos (by omega)] <;> (congr 1 <;> omega))
            | (rw [if_neg (by omega)])
        · have hb7 : (Bk.bulk a8 : Int) ≤ left - (a4.size : Int) - (a5.size : Int) - (a6.size : Int) := by
            rcases Int.decLt (left - (a4.size : Int) - (a5.size : Int) - (a6.size : Int)) (Bk.bulk a8 : Int) with hn | hn
            · omega
            · rw [if_neg (by omega)] at hc11; simp at hc11
          rw [if_pos hb7]
          refine s7 ?_
          -- return 5 (R13)
          refine res1 rfl (ResOK.tmp rfl) ⟨?_, rfl⟩ ms
          try simp only [bulk_pair, bulk_int, bulk_bool, bulk_str, Int.natCast_add, Int.natCast_zero] at *
          all_goals first
            | rfl
            | (rw [if_pos (by omega)] <;> (congr 1 <;> omega))
            | (rw [if_neg (by omega)])
theorem toCmd_spec (w : World) (t1 : T_Cmd) (h1 : GT.rd w [] t1) (hb : Bk.bulk t1 ≤ 1048576) : Spec Tryz.prog 73 [.agg (GT.cells t1).toArray].toArray w [] (fun v M => ∃ t2 : T_Cmd, v = .agg (GT.cells t2).toArray ∧ GT.dat t2 = GT.dat t1 ∧ M = [treeH t2]) := by
  obtain ⟨a1, a2, a3, a4, a5, a6, a7, a8⟩ := t1
  have hbk_7 : Bk.bulk a8 ≤ 1048576 := by (try simp only [bulk_pair, bulk_int, bulk_bool, bulk_str] at hb ⊢); omega
  change Spec _ _ [Value.agg #[.int .i64 a1, .int .i64 a2, .int .i64 a3, .string a4, .string a5, .string a6, .int .i64 a7, a8.hdr]].toArray w [] _
  refine Spec.intro Tryz.func73 rfl Tryz.ntmps73 rfl ?_
  refine s2 ?_
  refine bx fun bk1 => ?_
  refine al fun bk2 => ?_
  refine s3 ?_
  refine al fun bk3 => ?_
  refine s4 ?_
  refine L_load rfl rfl (by first | exact RdC.blk mm) one3.h rfl ?_
  refine s6 ?_
  refine L_load rfl rfl (by first | exact RdC.blk mm) one3.h rfl ?_
  refine s6 ?_
  refine L_load rfl rfl (by first | exact RdC.blk mm) one3.h rfl ?_
  refine s6 ?_
  refine L_load rfl rfl (by first | exact RdC.blk mm) one9.h rfl ?_
  refine s6 ?_
  refine L_load rfl rfl (by first | exact RdC.blk mm) one9.h rfl ?_
  refine s6 ?_
  refine L_load rfl rfl (by first | exact RdC.blk mm) one9.h rfl ?_
  refine s6 ?_
  refine L_load rfl rfl (by first | exact RdC.blk mm) one3.h rfl ?_
  refine s6 ?_
  refine L_load rfl rfl (by first | exact RdC.blk mm) one63.h rfl ?_
  refine L_callR rfl fn117.h rfl (by exact fun w hw => toStringS_spec w _ (rd_carry (h1.2.2.2.2.2.2.2) hw) hbk_7) ?_
  rintro v M1 ⟨n8t, hv, hd7, rfl⟩
  subst hv
  simp only [List.cons_append, List.nil_append]
  refine s5 ?_
  refine L_loadW rfl rfl (by first | exact RdC.blk mm) (by exact agg72.h) ?_
  refine L_storeW rfl rfl pk (by exact agg72.h) (by rfl) (by first | (simp [Value.oneCell', TL.hdr]; done) | (simp [Value.oneCell', TL.hdr, Value.cells]; done) | exact fun v hv => GT.one _ v hv) ?_
  refine s1 ?_
  refine W_conv (M' := treeH ((a1, a2, a3, a4, a5, a6, a7, n8t) : T_Cmd) :: _) (fun w h => (tree_snd (flat_int (h1.1)) (tree_snd (flat_int (h1.2.1)) (tree_snd (flat_int (h1.2.2.1)) (tree_snd (flat_str (h1.2.2.2.1)) (tree_snd (flat_str (h1.2.2.2.2.1)) (tree_snd (flat_str (h1.2.2.2.2.2.1)) (tree_snd (flat_int (h1.2.2.2.2.2.2.1)) (frontPick pk h))))))))) ?_
  refine s1 ?_
  -- return 1 (R10)
  refine res1 rfl (ResOK.cell rfl mm (by exact agg72.h)) ⟨(a1, a2, a3, a4, a5, a6, a7, n8t), rfl, by simp only [dat_pair, hd7], rfl⟩ ms
end Go.Proofs.SL
namespace Go.Proofs.SL
open Go
set_option maxHeartbeats 2000000
instance fn53 : FnF Tryz.prog 53 := ⟨⟨_, Tryz.func53, by kernel_rfl, rfl⟩⟩
instance fn54 : FnF Tryz.prog 54 := ⟨⟨_, Tryz.func54, by kernel_rfl, rfl⟩⟩
instance fn92 : FnF Tryz.prog 92 := ⟨⟨_, Tryz.func92, by kernel_rfl, rfl⟩⟩
instance fn93 : FnF Tryz.prog 93 := ⟨⟨_, Tryz.func93, by kernel_rfl, rfl⟩⟩
instance fld128_4 : FldF Tryz.prog 128 4 5 := ⟨by kernel_rfl⟩
instance agg65 : AggF Tryz.prog 65 8 := ⟨by kernel_rfl⟩
instance fn57 : FnF Tryz.prog 57 := ⟨⟨_, Tryz.func57, by kernel_rfl, rfl⟩⟩
instance fld128_6 : FldF Tryz.prog 128 6 14 := ⟨by kernel_rfl⟩
instance one66 : OneF Tryz.prog 66 := ⟨by kernel_rfl⟩
instance fn58 : FnF Tryz.prog 58 := ⟨⟨_, Tryz.func58, by kernel_rfl, rfl⟩⟩
instance fld128_0 : FldF Tryz.prog 128 0 0 := ⟨by kernel_rfl⟩
instance fld128_1 : FldF Tryz.prog 128 1 2 := ⟨by kernel_rfl⟩
instance fld128_2 : FldF Tryz.prog 128 2 3 := ⟨by kernel_rfl⟩
instance fld128_3 : FldF Tryz.prog 128 3 4 := ⟨by kernel_rfl⟩
instance fn73 : FnF Tryz.prog 73 := ⟨⟨_, Tryz.func73, by kernel_rfl, rfl⟩⟩
instance fld128_5 : FldF Tryz.prog 128 5 13 := ⟨by kernel_rfl⟩
instance fn74 : FnF Tryz.prog 74 := ⟨⟨_, Tryz.func74, by kernel_rfl, rfl⟩⟩
instance fld128_7 : FldF Tryz.prog 128 7 15 := ⟨by kernel_rfl⟩
instance fn132 : FnF Tryz.prog 132 := ⟨⟨_, Tryz.func132, by kernel_rfl, rfl⟩⟩
instance el56 : ElF Tryz.prog 56 128 16 184 [.int .i64 0, .int .i64 0, .int .i64 0, .int .i64 0, .int .i64 0, .int .i64 0, .int .i64 0, .int .i64 0, .string ByteArray.empty, .string ByteArray.empty, .string ByteArray.empty, .int .i64 0, .slice none 0 0, .int .i64 0, .slice none 0 0, .bool false] := ⟨by kernel_rfl⟩
instance agg128 : AggF Tryz.prog 128 16 := ⟨by kernel_rfl⟩
instance fn106 : FnF Tryz.prog 106 := ⟨⟨_, Tryz.func106, by kernel_rfl, rfl⟩⟩
instance fn115 : FnF Tryz.prog 115 := ⟨⟨_, Tryz.func115, by kernel_rfl, rfl⟩⟩
theorem eqInst_spec (w : World) (t1 t2 : T_Inst) (h1 : GT.rd w [] t1) (h2 : GT.rd w [] t2) : Spec Tryz.prog 132 [.agg (GT.cells t1).toArray, .agg (GT.cells t2).toArray].toArray w [] (IsV (.bool (eqB (GT.dat t1) (GT.dat t2)))) := by
  obtain ⟨⟨a11, a12⟩, a2, a3, a4, ⟨a51, a52, a53, a54, a55, a56, a57, a58⟩, a6, a7, a8⟩ := t1
  obtain ⟨⟨b11, b12⟩, b2, b3, b4, ⟨b51, b52, b53, b54, b55, b56, b57, b58⟩, b6, b7, b8⟩ := t2
  change Spec _ _ [Value.agg #[.int .i64 a11, .int .i64 a12, .int .i64 a2, .int .i64 a3, .int .i64 a4, .int .i64 a51, .int .i64 a52, .int .i64 a53, .string a54, .string a55, .string a56, .int .i64 a57, a58.hdr, .int .i64 a6, a7.hdr, .bool a8], Value.agg #[.int .i64 b11, .int .i64 b12, .int .i64 b2, .int .i64 b3, .int .i64 b4, .int .i64 b51, .int .i64 b52, .int .i64 b53, .string b54, .string b55, .string b56, .int .i64 b57, b58.hdr, .int .i64 b6, b7.hdr, .bool b8]].toArray w [] _
  refine Spec.intro Tryz.func132 rfl Tryz.ntmps132 rfl ?_
  refine s2 ?_
  refine bx fun bk2 => ?_
  refine bx fun bk3 => ?_
  refine s6 ?_
  refine L_loadW rfl rfl (RdC.seg (by first | exact RdC.blk mm) 0 2 rfl) (by exact agg71.h) ?_
  refine s1 ?_
  refine L_loadW rfl rfl (RdC.seg (by first | exact RdC.blk mm) 0 2 rfl) (by exact agg71.h) ?_
  refine L_callX rfl fn91.h rfl (by exact fun w hw => eqId_spec w (a11, a12) (b11, b12) (rd_carry (h1.1) hw) (rd_carry (h2.1) hw)) ?_
  refine s2 ?_
  refine kp [2, 3, 10] ?_
  refine W_cond rfl (fun hc1 => ?_) (fun hc1 => ?_)
  · refine s5 ?_
    -- return 1 (R2)
    refine res1 rfl (ResOK.tmp rfl) ⟨?_, rfl⟩ ms
    clear h1 h2
    first
      | (refine congrArg Value.bool (Eq.symm (eqB_false.2 fun e => ?_)); simp only [dat_pair, dat_int, dat_bool, dat_str, Prod.mk.injEq, eqB_nf, eqB_nt] at *; simp_all; done)
      | (refine congrArg Value.bool (Eq.symm (eqB_true.2 ?_)); simp only [dat_pair, dat_int, dat_bool, dat_str, Prod.mk.injEq, eqB_nf, eqB_nt] at *; simp_all; done)
      | (refine congrArg Value.bool (Eq.symm (eqB_false.2 fun e => ?_)); try simp only [dat_pair, dat_int, dat_bool, dat_str, Prod.mk.injEq] at e; simp_all; done)
      | (refine congrArg Value.bool (Eq.symm (eqB_true.2 ?_)); try simp only [dat_pair, dat_int, dat_bool, dat_str, Prod.mk.injEq]; simp_all; done)
  · refine s5 ?_
    refine L_load rfl rfl (by first | exact RdC.blk mm) one3.h rfl ?_
    refine s1 ?_
    refine L_load rfl rfl (by first | exact RdC.blk mm) one3.h rfl ?_
    refine s2 ?_
    refine kp [2, 3, 15] ?_
    refine W_cond rfl (fun hc3 => ?_) (fun hc3 => ?_)
    · refine s5 ?_
      -- return 2 (R4)
      refine res1 rfl (ResOK.tmp rfl) ⟨?_, rfl⟩ ms
      clear h1 h2
      first
        | (refine congrArg Value.bool (Eq.symm (eqB_false.2 fun e => ?_)); simp only [dat_pair, dat_int, dat_bool, dat_str, Prod.mk.injEq, eqB_nf, eqB_nt] at *; simp_all; done)
        | (refine congrArg Value.bool (Eq.symm (eqB_true.2 ?_)); simp only [dat_pair, dat_int, dat_bool, dat_str, Prod.mk.injEq, eqB_nf, eqB_nt] at *; simp_all; done)
        | (refine congrArg Value.bool (Eq.symm (eqB_false.2 fun e => ?_)); try simp only [dat_pair, dat_int, dat_bool, dat_str, Prod.mk.injEq] at e; simp_all; done)
        | (refine congrArg Value.bool (Eq.symm (eqB_true.2 ?_)); try simp only [dat_pair, dat_int, dat_bool, dat_str, Prod.mk.injEq]; simp_all; done)
    · refine s5 ?_
      refine L_load rfl rfl (by first | exact RdC.blk mm) one3.h rfl ?_
      refine s1 ?_
      refine L_load rfl rfl (by first | exact RdC.blk mm) one3.h rfl ?_
      refine s2 ?_
      refine kp [2, 3, 20] ?_
      refine W_cond rfl (fun hc5 => ?_) (fun hc5 => ?_)
      · refine s5 ?_
        -- return 3 (R6)
        refine res1 rfl (ResOK.tmp rfl) ⟨?_, rfl⟩ ms
        clear h1 h2
        first
          | (refine congrArg Value.bool (Eq.symm (eqB_false.2 fun e => ?_)); simp only [dat_pair, dat_int, dat_bool, dat_str, Prod.mk.injEq, eqB_nf, eqB_nt] at *; simp_all; done)
          | (refine congrArg Value.bool (Eq.symm (eqB_true.2 ?_)); simp only [dat_pair, dat_int, dat_bool, dat_str, Prod.mk.injEq, eqB_nf, eqB_nt] at *; simp_all; done)
          | (refine congrArg Value.bool (Eq.symm (eqB_false.2 fun e => ?_)); try simp only [dat_pair, dat_int, dat_bool, dat_str, Prod.mk.injEq] at e; simp_all; done)
          | (refine congrArg Value.bool (Eq.symm (eqB_true.2 ?_)); try simp only [dat_pair, dat_int, dat_bool, dat_str, Prod.mk.injEq]; simp_all; done)
      · refine s5 ?_
        refine L_load rfl rfl (by first | exact RdC.blk mm) one3.h rfl ?_
        refine s1 ?_
        refine L_load rfl rfl (by first | exact RdC.blk mm) one3.h rfl ?_
        refine s2 ?_
        refine kp [2, 3, 25] ?_
        refine W_cond rfl (fun hc7 => ?_) (fun hc7 => ?_)
        · refine s5 ?_
          -- return 4 (R8)
          refine res1 rfl (ResOK.tmp rfl) ⟨?_, rfl⟩ ms
          clear h1 h2
          first
            | (refine congrArg Value.bool (Eq.symm (eqB_false.2 fun e => ?_)); simp only [dat_pair, dat_int, dat_bool, dat_str, Prod.mk.injEq, eqB_nf, eqB_nt] at *; simp_all; done)
            | (refine congrArg Value.bool (Eq.symm (eqB_true.2 ?_)); simp only [dat_pair, dat_int, dat_bool, dat_str, Prod.mk.injEq, eqB_nf, eqB_nt] at *; simp_all; done)
            | (refine congrArg Value.bool (Eq.symm (eqB_false.2 fun e => ?_)); try simp only [dat_pair, dat_int, dat_bool, dat_str, Prod.mk.injEq] at e; simp_all; done)
            | (refine congrArg Value.bool (Eq.symm (eqB_true.2 ?_)); try simp only [dat_pair, dat_int, dat_bool, dat_str, Prod.mk.injEq]; simp_all; done)
        · refine s5 ?_
          refine L_loadW rfl rfl (RdC.seg (by first | exact RdC.blk mm) 5 8 rfl) (by exact agg72.h) ?_
          refine s1 ?_
          refine L_loadW rfl rfl (RdC.seg (by first | exact RdC.blk mm) 5 8 rfl) (by exact agg72.h) ?_
          refine L_callX rfl fn92.h rfl (by exact fun w hw => eqCmd_spec w (a51, a52, a53, a54, a55, a56, a57, a58) (b51, b52, b53, b54, b55, b56, b57, b58) (rd_carry (h1.2.2.2.2.1) hw) (rd_carry (h2.2.2.2.2.1) hw)) ?_
          refine s2 ?_
          refine kp [2, 3, 31] ?_
          refine W_cond rfl (fun hc9 => ?_) (fun hc9 => ?_)
          · refine s5 ?_
            -- return 5 (R10)
            refine res1 rfl (ResOK.tmp rfl) ⟨?_, rfl⟩ ms
            clear h1 h2
            first
              | (refine congrArg Value.bool (Eq.symm (eqB_false.2 fun e => ?_)); simp only [dat_pair, dat_int, dat_bool, dat_str, Prod.mk.injEq, eqB_nf, eqB_nt] at *; simp_all; done)
              | (refine congrArg Value.bool (Eq.symm (eqB_true.2 ?_)); simp only [dat_pair, dat_int, dat_bool, dat_str, Prod.mk.injEq, eqB_nf, eqB_nt] at *; simp_all; done)
              | (refine congrArg Value.bool (Eq.symm (eqB_false.2 fun e => ?_)); try simp only [dat_pair, dat_int, dat_bool, dat_str, Prod.mk.injEq] at e; simp_all; done)
              | (refine congrArg Value.bool (Eq.symm (eqB_true.2 ?_)); try simp only [dat_pair, dat_int, dat_bool, dat_str, Prod.mk.injEq]; simp_all; done)
          · refine s5 ?_
            refine L_load rfl rfl (by first | exact RdC.blk mm) one3.h rfl ?_
            refine s1 ?_
            refine L_load rfl rfl (by first | exact RdC.blk mm) one3.h rfl ?_
            refine s2 ?_
            refine kp [2, 3, 36] ?_
            refine W_cond rfl (fun hc11 => ?_) (fun hc11 => ?_)
            · refine s5 ?_
              -- return 6 (R12)
              refine res1 rfl (ResOK.tmp rfl) ⟨?_, rfl⟩ ms
              clear h1 h2
              first
                | (refine congrArg Value.bool (Eq.symm (eqB_false.2 fun e => ?_)); simp only [dat_pair, dat_int, dat_bool, dat_str, Prod.mk.injEq, eqB_nf, eqB_nt] at *; simp_all; done)
                | (refine congrArg Value.bool (Eq.symm (eqB_true.2 ?_)); simp only [dat_pair, dat_int, dat_bool, dat_str, Prod.mk.injEq, eqB_nf, eqB_nt] at *; simp_all; done)
                | (refine congrArg Value.bool (Eq.symm (eqB_false.2 fun e => ?_)); try simp only [dat_pair, dat_int, dat_bool, dat_str, Prod.mk.injEq] at e; simp_all; done)
                | (refine congrArg Value.bool (Eq.symm (eqB_true.2 ?_)); try simp only [dat_pair, dat_int, dat_bool, dat_str, Prod.mk.injEq]; simp_all; done)
            · refine s5 ?_
              refine L_load rfl rfl (by first | exact RdC.blk mm) one51.h rfl ?_
              refine s1 ?_
              refine L_load rfl rfl (by first | exact RdC.blk mm) one51.h rfl ?_
              refine L_callX rfl fn93.h rfl (by exact fun w hw => eqIdS_spec w _ _ (rd_carry (h1.2.2.2.2.2.2.1) hw) (rd_carry (h2.2.2.2.2.2.2.1) hw)) ?_
              refine s2 ?_
              refine kp [2, 3, 42] ?_
              refine W_cond rfl (fun hc13 => ?_) (fun hc13 => ?_)
              · refine s5 ?_
                -- return 7 (R14)
                refine res1 rfl (ResOK.tmp rfl) ⟨?_, rfl⟩ ms
                clear h1 h2
                first
                  | (refine congrArg Value.bool (Eq.symm (eqB_false.2 fun e => ?_)); simp only [dat_pair, dat_int, dat_bool, dat_str, Prod.mk.injEq, eqB_nf, eqB_nt] at *; simp_all; done)
                  | (refine congrArg Value.bool (Eq.symm (eqB_true.2 ?_)); simp only [dat_pair, dat_int, dat_bool, dat_str, Prod.mk.injEq, eqB_nf, eqB_nt] at *; simp_all; done)
                  | (refine congrArg Value.bool (Eq.symm (eqB_false.2 fun e => ?_)); try simp only [dat_pair, dat_int, dat_bool, dat_str, Prod.mk.injEq] at e; simp_all; done)
                  | (refine congrArg Value.bool (Eq.symm (eqB_true.2 ?_)); try simp only [dat_pair, dat_int, dat_bool, dat_str, Prod.mk.injEq]; simp_all; done)
              · refine s5 ?_
                refine L_load rfl rfl (by first | exact RdC.blk mm) one4.h rfl ?_
                refine s1 ?_
                refine L_load rfl rfl (by first | exact RdC.blk mm) one4.h rfl ?_
                refine s2 ?_
                refine kp [47] ?_
                refine W_cond rfl (fun hc15 => ?_) (fun hc15 => ?_)
                · refine s5 ?_
                  -- return 8 (R16)
                  refine res1 rfl (ResOK.tmp rfl) ⟨?_, rfl⟩ ms
                  clear h1 h2
                  first
                    | (refine congrArg Value.bool (Eq.symm (eqB_false.2 fun e => ?_)); simp only [dat_pair, dat_int, dat_bool, dat_str, Prod.mk.injEq, eqB_nf, eqB_nt] at *; simp_all; done)
                    | (refine congrArg Value.bool (Eq.symm (eqB_true.2 ?_)); simp only [dat_pair, dat_int, dat_bool, dat_str, Prod.mk.injEq, eqB_nf, eqB_nt] at *; simp_all; done)
                    | (refine congrArg Value.bool (Eq.symm (eqB_false.2 fun e => ?_)); try simp only [dat_pair, dat_int, dat_bool, dat_str, Prod.mk.injEq] at e; simp_all; done)
                    | (refine congrArg Value.bool (Eq.symm (eqB_true.2 ?_)); try simp only [dat_pair, dat_int, dat_bool, dat_str, Prod.mk.injEq]; simp_all; done)
                · refine s6 ?_
                  -- return 9 (R17)
                  refine res1 rfl (ResOK.tmp rfl) ⟨?_, rfl⟩ ms
                  clear h1 h2
                  first
                    | (refine congrArg Value.bool (Eq.symm (eqB_false.2 fun e => ?_)); simp only [dat_pair, dat_int, dat_bool, dat_str, Prod.mk.injEq, eqB_nf, eqB_nt] at *; simp_all; done)
                    | (refine congrArg Value.bool (Eq.symm (eqB_true.2 ?_)); simp only [dat_pair, dat_int, dat_bool, dat_str, Prod.mk.injEq, eqB_nf, eqB_nt] at *; simp_all; done)
                    | (refine congrArg Value.bool (Eq.symm (eqB_false.2 fun e => ?_)); try simp only [dat_pair, dat_int, dat_bool, dat_str, Prod.mk.injEq] at e; simp_all; done)
                    | (refine congrArg Value.bool (Eq.symm (eqB_true.2 ?_)); try simp only [dat_pair, dat_int, dat_bool, dat_str, Prod.mk.injEq]; simp_all; done)
theorem szInst_spec (w : World) (t1 : T_Inst) (left : Int) (hl : 0 ≤ left) (hm : left ≤ 1048576) (h1 : GT.rd w [] t1) (ho : Ok.ok (GT.dat t1)) : Spec Tryz.prog 106 [.agg (GT.cells t1).toArray, .int .i64 left].toArray w [] (IsV (.int .i64 (if (Bk.bulk t1 : Int) ≤ left then left - (Bk.bulk t1 : Int) else -1))) := by
  obtain ⟨⟨a11, a12⟩, a2, a3, a4, ⟨a51, a52, a53, a54, a55, a56, a57, a58⟩, a6, a7, a8⟩ := t1
  change Spec _ _ [Value.agg #[.int .i64 a11, .int .i64 a12, .int .i64 a2, .int .i64 a3, .int .i64 a4, .int .i64 a51, .int .i64 a52, .int .i64 a53, .string a54, .string a55, .string a56, .int .i64 a57, a58.hdr, .int .i64 a6, a7.hdr, .bool a8], .int .i64 left].toArray w [] _
  refine Spec.intro Tryz.func106 rfl Tryz.ntmps106 rfl ?_
  refine s2 ?_
  refine bx fun bk2 => ?_
  refine s5 ?_
  refine L_loadW rfl rfl (RdC.seg (by first | exact RdC.blk mm) 5 8 rfl) (by exact agg65.h) ?_
  refine s1 ?_
  refine L_callX rfl fn57.h rfl (by exact fun w hw => szCmd_spec w (a51, a52, a53, a54, a55, a56, a57, a58) (left) (by omega) (by omega) (rd_carry (h1.2.2.2.2.1) hw) ho.2.2.2.2.1) ?_
  refine s8 ?_
  refine kp [1, 2, 10] ?_
  refine W_cond rfl (fun hc2 => ?_) (fun hc2 => ?_)
  · have hb4 : ¬ ((Bk.bulk (a51, a52, a53, a54, a55, a56, a57, a58) : Int) ≤ left) := by
      intro hn
      rw [if_pos hn] at hc2; simp at hc2; omega
    refine s5 ?_
    -- return 1 (R3)
    refine res1 rfl (ResOK.tmp rfl) ⟨?_, rfl⟩ ms
    try simp only [bulk_pair, bulk_int, bulk_bool, bulk_str, Int.natCast_add, Int.natCast_zero] at *
    all_goals first
      | rfl
      | (rw [if_pos (by omega)] <;> (congr 1 <;> omega))
      | (rw [if_neg (by omega)])
  · have hb4 : (Bk.bulk (a51, a52, a53, a54, a55, a56, a57, a58) : Int) ≤ left := by
      rcases Int.decLt (left) (Bk.bulk (a51, a52, a53, a54, a55, a56, a57, a58) : Int) with hn | hn
      · omega
      · rw [if_neg (by omega)] at hc2; simp at hc2
    rw [if_pos hb4]
    refine s4 ?_
    refine L_load rfl rfl (by first | exact RdC.blk mm) one66.h rfl ?_
    refine s1 ?_
    refine L_callX rfl fn58.h rfl (by exact fun w hw => szIdS_spec w _ (left - (Bk.bulk (a51, a52, a53, a54, a55, a56, a57, a58) : Int)) (by omega) (by omega) (rd_carry (h1.2.2.2.2.2.2.1) hw) ho.2.2.2.2.2.2.1) ?_
    refine s8 ?_
    refine kp [1, 16] ?_
    refine W_cond rfl (fun hc5 => ?_) (fun hc5 => ?_)
    · have hb6 : ¬ ((Bk.bulk a7 : Int) ≤ left - (Bk.bulk (a51, a52, a53, a54, a55, a56, a57, a58) : Int)) := by
        intro hn
        rw [if_pos hn] at hc5; simp at hc5; omega
      refine s5 ?_
      -- return 2 (R6)
      refine res1 rfl (ResOK.tmp rfl) ⟨?_, rfl⟩ ms
      try simp only [bulk_pair, bulk_int, bulk_bool, bulk_str, Int.natCast_add, Int.natCast_zero] at *
      all_goals first
        | rfl
        | (rw [if_pos (by omega)] <;> (congr 1 <;> omega))
        | (rw [if_neg (by omega)])
    · have hb6 : (Bk.bulk a7 : Int) ≤ left - (Bk.bulk (a51, a52, a53, a54, a55, a56, a57, a58) : Int) := by
        rcases Int.decLt (left - (Bk.bulk (a51, a52, a53, a54, a55, a56, a57, a58) : Int)) (Bk.bulk a7 : Int) with hn | hn
        · omega
        · rw [if_neg (by omega)] at hc5; simp at hc5
      rw [if_pos hb6]
      refine s7 ?_
      -- return 3 (R7)
      refine res1 rfl (ResOK.tmp rfl) ⟨?_, rfl⟩ ms
      try simp only [bulk_pair, bulk_int, bulk_bool, bulk_str, Int.natCast_add, Int.natCast_zero] at *
      all_goals first
        | rfl
        | (rw [if_pos (by omega)] <;> (congr 1 <;> omega))
        | (rw [if_neg (by omega)])
theorem toInst_spec (w : World) (t1 : T_Inst) (h1 : GT.rd w [] t1) (hb : Bk.bulk t1 ≤ 1048576) : Spec Tryz.prog 115 [.agg (GT.cells t1).toArray].toArray w [] (fun v M => ∃ t2 : T_Inst, v = .agg (GT.cells t2).toArray ∧ GT.dat t2 = GT.dat t1 ∧ M = [treeH t2]) := by
  obtain ⟨⟨a11, a12⟩, a2, a3, a4, ⟨a51, a52, a53, a54, a55, a56, a57, a58⟩, a6, a7, a8⟩ := t1
  have hbk_0 : Bk.bulk (a11, a12) ≤ 1048576 := by (try simp only [bulk_pair, bulk_int, bulk_bool, bulk_str] at hb ⊢); omega
  have hbk_4 : Bk.bulk (a51, a52, a53, a54, a55, a56, a57, a58) ≤ 1048576 := by (try simp only [bulk_pair, bulk_int, bulk_bool, bulk_str] at hb ⊢); omega
  have hbk_6 : Bk.bulk a7 ≤ 1048576 := by (try simp only [bulk_pair, bulk_int, bulk_bool, bulk_str] at hb ⊢); omega
  change Spec _ _ [Value.agg #[.int .i64 a11, .int .i64 a12, .int .i64 a2, .int .i64 a3, .int .i64 a4, .int .i64 a51, .int .i64 a52, .int .i64 a53, .string a54, .string a55, .string a56, .int .i64 a57, a58.hdr, .int .i64 a6, a7.hdr, .bool a8]].toArray w [] _
  refine Spec.intro Tryz.func115 rfl Tryz.ntmps115 rfl ?_
  refine s2 ?_
  refine bx fun bk1 => ?_
  refine al fun bk2 => ?_
  refine s3 ?_
  refine al fun bk3 => ?_
  refine s4 ?_
  refine L_loadW rfl rfl (RdC.seg (by first | exact RdC.blk mm) 0 2 rfl) (by exact agg62.h) ?_
  refine L_callR rfl fn72.h rfl (by exact fun w hw => toId_spec w (a11, a12) (rd_carry (h1.1) hw) hbk_0) ?_
  rintro v M1 ⟨n1t, hv, hd0, rfl⟩
  obtain ⟨n11, n12⟩ := n1t
  subst hv
  simp only [List.cons_append, List.nil_append]
  refine s1 ?_
  refine L_storeA (fo := 0) rfl rfl pk (by exact agg71.h) (Nat.le_of_ble_eq_true rfl) (by first | (simp [Value.oneCell', TL.hdr]; done) | (simp [Value.oneCell', TL.hdr, Value.cells]; done) | exact fun v hv => GT.one _ v hv) (by simp only [cells_pair, cells_int, cells_bool, cells_str, cells_TL, List.take_zero, List.take_succ_cons, List.drop_zero, List.drop_succ_cons, List.set_cons_zero, List.set_cons_succ, List.length_cons, List.length_nil, List.cons_append, List.nil_append, List.append_nil, Nat.zero_add, Nat.reduceAdd]; rfl) ?_
  refine s4 ?_
  refine L_load rfl rfl (by first | exact RdC.blk mm) one3.h rfl ?_
  refine s6 ?_
  refine L_load rfl rfl (by first | exact RdC.blk mm) one3.h rfl ?_
  refine s6 ?_
  refine L_load rfl rfl (by first | exact RdC.blk mm) one3.h rfl ?_
  refine s6 ?_
  refine L_loadW rfl rfl (RdC.seg (by first | exact RdC.blk mm) 5 8 rfl) (by exact agg65.h) ?_
  refine L_callR rfl fn73.h rfl (by exact fun w hw => toCmd_spec w (a51, a52, a53, a54, a55, a56, a57, a58) (rd_carry (h1.2.2.2.2.1) hw) hbk_4) ?_
  rintro v M1 ⟨n5t, hv, hd4, rfl⟩
  obtain ⟨n51, n52, n53, n54, n55, n56, n57, n58⟩ := n5t
  subst hv
  simp only [List.cons_append, List.nil_append]
  refine s1 ?_
  refine L_storeA (fo := 5) rfl rfl pk (by exact agg72.h) (Nat.le_of_ble_eq_true rfl) (by first | (simp [Value.oneCell', TL.hdr]; done) | (simp [Value.oneCell', TL.hdr, Value.cells]; done) | exact fun v hv => GT.one _ v hv) (by simp only [cells_pair, cells_int, cells_bool, cells_str, cells_TL, List.take_zero, List.take_succ_cons, List.drop_zero, List.drop_succ_cons, List.set_cons_zero, List.set_cons_succ, List.length_cons, List.length_nil, List.cons_append, List.nil_append, List.append_nil, Nat.zero_add, Nat.reduceAdd]; rfl) ?_
  refine s4 ?_
  refine L_load rfl rfl (by first | exact RdC.blk mm) one3.h rfl ?_
  refine s6 ?_
  refine L_load rfl rfl (by first | exact RdC.blk mm) one66.h rfl ?_
  refine L_callR rfl fn74.h rfl (by exact fun w hw => toIdS_spec w _ (rd_carry (h1.2.2.2.2.2.2.1) hw) hbk_6) ?_
  rintro v M1 ⟨n7t, hv, hd6, rfl⟩
  subst hv
  simp only [List.cons_append, List.nil_append]
  refine s6 ?_
  refine L_load rfl rfl (by first | exact RdC.blk mm) one4.h rfl ?_
  refine s5 ?_
  refine L_loadW rfl rfl (by first | exact RdC.blk mm) (by exact agg79.h) ?_
  refine L_storeW rfl rfl pk (by exact agg79.h) (by rfl) (by first | (simp [Value.oneCell', TL.hdr]; done) | (simp [Value.oneCell', TL.hdr, Value.cells]; done) | exact fun v hv => GT.one _ v hv) ?_
  refine s1 ?_
  refine W_conv (M' := treeH (n7t, a8) :: _) (fun w h => pairPick pk (h.addFlat (flat_bool _))) ?_
  refine W_conv (M' := treeH (a6, n7t, a8) :: _) (fun w h => tree_snd (flat_int (h1.2.2.2.2.2.1)) h) ?_
  refine W_conv (M' := treeH ((n51, n52, n53, n54, n55, n56, n57, n58), a6, n7t, a8) :: _) (fun w h => pairPick pk h) ?_
  refine W_conv (M' := treeH (a4, (n51, n52, n53, n54, n55, n56, n57, n58), a6, n7t, a8) :: _) (fun w h => tree_snd (flat_int (h1.2.2.2.1)) h) ?_
  refine W_conv (M' := treeH (a3, a4, (n51, n52, n53, n54, n55, n56, n57, n58), a6, n7t, a8) :: _) (fun w h => tree_snd (flat_int (h1.2.2.1)) h) ?_
  refine W_conv (M' := treeH (a2, a3, a4, (n51, n52, n53, n54, n55, n56, n57, n58), a6, n7t, a8) :: _) (fun w h => tree_snd (flat_int (h1.2.1)) h) ?_
  refine W_conv (M' := treeH ((n11, n12), a2, a3, a4, (n51, n52, n53, n54, n55, n56, n57, n58), a6, n7t, a8) :: _) (fun w h => pairPick pk h) ?_
  refine s1 ?_
  -- return 1 (R10)
  refine res1 rfl (ResOK.cell rfl mm (by exact agg79.h)) ⟨((n11, n12), a2, a3, a4, (n51, n52, n53, n54, n55, n56, n57, n58), a6, n7t, a8), rfl, by simp only [dat_pair, hd0, hd4, hd6], rfl⟩ ms
theorem eqInstS_spec (w : World) (t1 t2 : TL T_Inst) (h1 : GT.rd w [] t1) (h2 : GT.rd w [] t2) : Spec Tryz.prog 89 [t1.hdr, t2.hdr].toArray w [] (IsV (.bool (eqB (GT.dat t1) (GT.dat t2)))) := by
  obtain ⟨a1, c1, e1, x1, y1⟩ := t1
  obtain ⟨a2, c2, e2, x2, y2⟩ := t2
  have hm1 : x1.length ≤ 9223372036854775807 := rd_len h1
  have hm2 : x2.length ≤ 9223372036854775807 := rd_len h2
  dsimp only [TL.hdr]
  refine Spec.intro Tryz.func89 rfl Tryz.ntmps89 rfl ?_
  refine s8 ?_
  refine L_lenS rfl rfl el43.h ?_
  refine s1 ?_
  refine L_lenS rfl rfl el43.h ?_
  refine s2 ?_
  refine kp [0, 1, 10] ?_
  refine W_cond rfl (fun hc1 => ?_) (fun hc1 => ?_)
  · refine s5 ?_
    -- return 1 (R2)
    refine res1 rfl (ResOK.tmp rfl) ⟨?_, rfl⟩ ms
    refine congrArg Value.bool (Eq.symm (eqB_false.2 fun e => ?_))
    simp at hc1
    exact hc1 (by have := congrArg List.length e; simp [dat_TL] at this; omega)
  · have hl : x1.length = x2.length := by simp at hc1; omega
    refine s7 ?_
    refine W_loopC (σ := Nat) 0 (fun (k : Nat) => [(5, .int .i64 (k : Int))]) (fun (k : Nat) => []) (fun (k : Nat) => k ≤ x1.length ∧ (x1.map GT.dat).take k = (x2.map GT.dat).take k) (fun (k : Nat) => x1.length - k) [(0, _), (1, _)] [] ?_ sb ms ?_
    · exact ⟨Nat.zero_le _, rfl⟩
    · rintro k ⟨hk, ht⟩
      refine kq [0, 1, 5] ?_
      refine s5 ?_
      refine L_lenS rfl rfl el43.h ?_
      refine s2 ?_
      refine kp [0, 1, 5, 14] ?_
      refine W_cond rfl (fun hc4 => ?_) (fun hc4 => ?_)
      · have hk1 : k < x1.length := by simpa using hc4
        obtain ⟨g1, o1, rfl⟩ := rd_addr h1 hk1
        obtain ⟨g2, o2, rfl⟩ := rd_addr (k := k) h2 (show k < x2.length by omega)
        obtain ⟨u1, hu1⟩ := getEl hk1
        obtain ⟨u2, hu2⟩ := getEl (show k < x2.length by omega)
        refine s4 ?_
        refine W_D0 [26] mix (by kernel_rfl) rfl ?_
        refine s2 ?_
        refine D_indexAddr _ GC.none (OpV.t rfl) (OpV.t rfl) el43.h (fun hg => ⟨rfl, by (try dsimp only); omega⟩) ?_
        refine D_loadW GC.none (OpV.t rfl) (fun hg => (by first | exact RdC.blk mm | exact RdC.old (Cells.el h1 rfl hu1) | exact RdC.old (Cells.el h2 rfl hu2))) (by exact agg79.h) ?_
        refine s2 ?_
        refine D_indexAddr _ GC.none (OpV.t rfl) (OpV.t rfl) el43.h (fun hg => ⟨rfl, by (try dsimp only); omega⟩) ?_
        refine D_loadW GC.none (OpV.t rfl) (fun hg => (by first | exact RdC.blk mm | exact RdC.old (Cells.el h1 rfl hu1) | exact RdC.old (Cells.el h2 rfl hu2))) (by exact agg79.h) ?_
        refine D_callX GC.none fn132.h (OpVs.cons (OpV.t rfl) (OpVs.cons (OpV.t rfl) (OpVs.nil))) (by exact fun hg w F hF hM => (fun w hw => eqInst_spec w _ _ (rd_carry (h1.2.2.1 _ (List.mem_of_getElem? hu1)) hw) (rd_carry (h2.2.2.1 _ (List.mem_of_getElem? hu2)) hw)) w hF) ?_
        refine s13 ?_
        refine kp [0, 1, 5, 26] ?_
        refine W_cond rfl (fun hc6 => ?_) (fun hc6 => ?_)
        · refine s5 ?_
          -- return 2 (R7)
          refine res1 rfl (ResOK.tmp rfl) ⟨?_, rfl⟩ ms
          refine congrArg Value.bool (Eq.symm (eqB_false.2 fun e => ?_))
          simp at hc6
          replace e : x1.map GT.dat = x2.map GT.dat := e
          have e2 := congrArg (fun l => l[k]?) e
          simp only [List.getElem?_map, hu1, hu2, Option.map_some, Option.some.injEq] at e2
          exact hc6 (by simpa [dat_int, dat_str, dat_bool] using e2)
        · refine s3 ?_
          refine L_binV rfl rfl rfl (bv_addR (by unfold inR; omega)) ?_
          refine s2 ?_
          refine ⟨k + 1, sb, ms, ?_, ?_⟩
          · exact ⟨by omega, take_succ_eq ht (by rw [List.getElem?_map, hu1]; rfl) (by rw [List.getElem?_map, hu2]; rfl) (by simpa [dat_int, dat_str, dat_bool] using hc6)⟩
          · (try dsimp only); omega
      · refine W_exit ?_
        refine s5 ?_
        -- return 3 (R8)
        refine res1 rfl (ResOK.tmp rfl) ⟨?_, rfl⟩ ms
        refine congrArg Value.bool (Eq.symm (eqB_true.2 ?_))
        have hk2 : x1.length ≤ k := by simpa using hc4
        have h3 := ht
        rw [List.take_of_length_le (by simp; omega), List.take_of_length_le (by simp; omega)] at h3
        exact h3
theorem szInstS_spec (w : World) (t1 : TL T_Inst) (left : Int) (hl : 0 ≤ left) (hm : left ≤ 1048576) (h1 : GT.rd w [] t1) (ho : Ok.ok (GT.dat t1)) : Spec Tryz.prog 55 [t1.hdr, .int .i64 left].toArray w [] (IsV (.int .i64 (if (Bk.bulk t1 : Int) ≤ left then left - (Bk.bulk t1 : Int) else -1))) := by
  obtain ⟨a1, c1, e1, x1, y1⟩ := t1
  have hm1 : x1.length ≤ 9223372036854775807 := rd_len h1
  rw [bulk_TL]
  dsimp only [TL.hdr]
  refine Spec.intro Tryz.func55 rfl Tryz.ntmps55 rfl ?_
  refine s8 ?_
  refine L_lenS rfl rfl el56.h ?_
  refine L_binV rfl rfl rfl (bv_subR (by unfold inR; omega)) ?_
  refine s8 ?_
  refine kp [0, 1, 11] ?_
  refine W_cond rfl (fun hc2 => ?_) (fun hc2 => ?_)
  · have hb0 : left - (x1.length : Int) < 0 := by simpa using hc2
    refine s5 ?_
    -- return 1 (R3)
    refine res1 rfl (ResOK.tmp rfl) ⟨?_, rfl⟩ ms
    first
      | (rw [if_neg (by simp only [Int.natCast_add]; omega)]; done)
      | (rw [if_neg (by have := bulks_take_le x1 (k + 1); simp only [Int.natCast_add]; omega)]; done)
      | (have hk2 : x1.length ≤ k := by simpa using hc5
         rw [List.take_of_length_le hk2] at ht ⊢
         rw [if_pos (by simp only [Int.natCast_add]; omega)]; congr 1; simp only [Int.natCast_add]; omega)
  · have hb0 : ¬ (left - (x1.length : Int) < 0) := by simpa using hc2
    refine s7 ?_
    have h0 : left - (x1.length : Int) = left - (x1.length : Int) - (bulks (x1.take 0) : Int) := by simp [bulks]
    rw [h0]
    refine W_loopC (σ := Nat) 0 (fun (k : Nat) => [(1, .int .i64 (left - (x1.length : Int) - (bulks (x1.take k) : Int))), (5, .int .i64 (k : Int))]) (fun (k : Nat) => []) (fun (k : Nat) => k ≤ x1.length ∧ 0 ≤ (left - (x1.length : Int) - (bulks (x1.take k) : Int))) (fun (k : Nat) => x1.length - k) [(0, _)] [] ?_ sb ms ?_
    · exact ⟨Nat.zero_le _, by simp [bulks]; omega⟩
    · rintro k ⟨hk, ht⟩
      refine kq [0, 1, 5] ?_
      refine s5 ?_
      refine L_lenS rfl rfl el56.h ?_
      refine s2 ?_
      refine kp [0, 1, 5, 15] ?_
      refine W_cond rfl (fun hc5 => ?_) (fun hc5 => ?_)
      · have hk1 : k < x1.length := by simpa using hc5
        obtain ⟨g1, o1, rfl⟩ := rd_addr h1 hk1
        obtain ⟨u1, hu1⟩ := getEl hk1
        have hbs := bulks_take_succ hu1
        have hble := bulks_take_le x1 (k + 1)
        refine s7 ?_
        refine L_indexAddr rfl rfl rfl el56.h rfl (by omega) ?_
        refine L_loadW rfl rfl (by first | exact RdC.blk mm | exact RdC.old (Cells.el h1 rfl hu1)) (by exact agg128.h) ?_
        refine s1 ?_
        refine L_callX rfl fn106.h rfl (by exact fun w hw => szInst_spec w _ _ (by omega) (by omega) (rd_carry (h1.2.2.1 _ (List.mem_of_getElem? hu1)) hw) (ho.2 _ (List.mem_map.2 ⟨u1, List.mem_of_getElem? hu1, rfl⟩))) ?_
        refine s7 ?_
        refine kp [0, 1, 5, 25] ?_
        refine W_cond rfl (fun hc8 => ?_) (fun hc8 => ?_)
        · have hb1 : ¬ ((Bk.bulk u1 : Int) ≤ (left - (x1.length : Int) - (bulks (x1.take k) : Int))) := by
            intro hn
            rw [if_pos hn] at hc8; simp at hc8; omega
          refine s5 ?_
          -- return 2 (R9)
          refine res1 rfl (ResOK.tmp rfl) ⟨?_, rfl⟩ ms
          first
            | (rw [if_neg (by simp only [Int.natCast_add]; omega)]; done)
            | (rw [if_neg (by have := bulks_take_le x1 (k + 1); simp only [Int.natCast_add]; omega)]; done)
            | (have hk2 : x1.length ≤ k := by simpa using hc5
               rw [List.take_of_length_le hk2] at ht ⊢
               rw [if_pos (by simp only [Int.natCast_add]; omega)]; congr 1; simp only [Int.natCast_add]; omega)
        · have hb1 : (Bk.bulk u1 : Int) ≤ (left - (x1.length : Int) - (bulks (x1.take k) : Int)) := by
            rcases Int.decLt (left - (x1.length : Int) - (bulks (x1.take k) : Int)) (Bk.bulk u1 : Int) with hn | hn
            · omega
            · rw [if_neg (by omega)] at hc8; simp at hc8
          rw [if_pos hb1]
          have hnx : (left - (x1.length : Int) - (bulks (x1.take k) : Int)) - (Bk.bulk u1 : Int) = left - (x1.length : Int) - (bulks (x1.take (k + 1)) : Int) := by rw [hbs]; omega
          rw [hnx]
          refine s3 ?_
          refine L_binV rfl rfl rfl (bv_addR (by unfold inR; omega)) ?_
          refine s2 ?_
          refine ⟨k + 1, sb, ms, ?_, ?_⟩
          · exact ⟨by omega, by omega⟩
          · (try dsimp only); omega
      · refine W_exit ?_
        refine s6 ?_
        -- return 3 (R10)
        refine res1 rfl (ResOK.tmp rfl) ⟨?_, rfl⟩ ms
        first
          | (rw [if_neg (by simp only [Int.natCast_add]; omega)]; done)
          | (rw [if_neg (by have := bulks_take_le x1 (k + 1); simp only [Int.natCast_add]; omega)]; done)
          | (have hk2 : x1.length ≤ k := by simpa using hc5
             rw [List.take_of_length_le hk2] at ht ⊢
             rw [if_pos (by simp only [Int.natCast_add]; omega)]; congr 1; simp only [Int.natCast_add]; omega)
theorem toInstS_spec (w : World) (t1 : TL T_Inst) (h1 : GT.rd w [] t1) (hb : Bk.bulk t1 ≤ 1048576) : Spec Tryz.prog 70 [t1.hdr].toArray w [] (fun v M => ∃ t2 : TL T_Inst, v = t2.hdr ∧ GT.dat t2 = GT.dat t1 ∧ M = [treeH t2]) := by
  obtain ⟨a1, c1, e1, x1, y1⟩ := t1
  rw [bulk_TL] at hb
  dsimp only [TL.hdr]
  refine Spec.intro Tryz.func70 rfl Tryz.ntmps70 rfl ?_
  refine s7 ?_
  refine L_lenS rfl rfl el56.h ?_
  refine L_make (τ := T_Inst) (((0 : Int), (0 : Int)), (0 : Int), (0 : Int), (0 : Int), ((0 : Int), (0 : Int), (0 : Int), ByteArray.empty, ByteArray.empty, ByteArray.empty, (0 : Int), (TL.nil ByteArray 0)), (0 : Int), (TL.nil T_Id 0), false) rfl rfl rfl el43.h rfl rfl (flat_pair (flat_pair (flat_int trivial) (flat_int trivial)) (flat_pair (flat_int trivial) (flat_pair (flat_int trivial) (flat_pair (flat_int trivial) (flat_pair (flat_pair (flat_int trivial) (flat_pair (flat_int trivial) (flat_pair (flat_int trivial) (flat_pair (flat_str trivial) (flat_pair (flat_str trivial) (flat_pair (flat_str trivial) (flat_pair (flat_int trivial) (flat_nil 0)))))))) (flat_pair (flat_int trivial) (flat_pair (flat_nil 0) (flat_bool _)))))))) (by omega) (by unfold maxLen; omega) (fun g => ?_)
  refine s8 ?_
  refine W_loopC (σ := Nat × List T_Inst) (0, List.replicate x1.length (((0 : Int), (0 : Int)), (0 : Int), (0 : Int), (0 : Int), ((0 : Int), (0 : Int), (0 : Int), ByteArray.empty, ByteArray.empty, ByteArray.empty, (0 : Int), (TL.nil ByteArray 0)), (0 : Int), (TL.nil T_Id 0), false)) (fun (p : Nat × List T_Inst) => [(4, .int .i64 (p.1 : Int))]) (fun (p : Nat × List T_Inst) => [treeH (⟨some ⟨g, 0, none⟩, x1.length, 79, p.2, []⟩ : TL T_Inst)]) (fun (p : Nat × List T_Inst) => p.1 ≤ x1.length ∧ p.2.length = x1.length ∧ (p.2.take p.1).map GT.dat = (x1.take p.1).map GT.dat) (fun (p : Nat × List T_Inst) => x1.length - p.1) [(0, _), (3, _)] [] ?_ sb ms ?_
  · exact ⟨Nat.zero_le _, by simp, by simp⟩
  · rintro ⟨k, cur⟩ ⟨hk, hlen, hdat⟩
    dsimp only at hk hlen hdat
    refine kq [0, 3, 4] ?_
    refine s5 ?_
    refine L_lenS rfl rfl el56.h ?_
    refine s2 ?_
    refine kp [0, 3, 4, 11] ?_
    refine W_cond rfl (fun hc3 => ?_) (fun hc3 => ?_)
    · have hk1 : k < x1.length := by simpa using hc3
      obtain ⟨g1, o1, rfl⟩ := rd_addr h1 hk1
      obtain ⟨u1, hu1⟩ := getEl hk1
      have hub : Bk.bulk u1 ≤ 1048576 := by have := bulk_mem (List.mem_of_getElem? hu1); omega
      refine s8 ?_
      refine L_indexAddr rfl rfl rfl el56.h rfl (by omega) ?_
      refine L_loadW rfl rfl (by first | exact RdC.blk mm | exact RdC.old (Cells.el h1 rfl hu1)) (by exact agg128.h) ?_
      refine L_callR rfl fn115.h rfl (by exact fun w hw => toInst_spec w _ (rd_carry (h1.2.2.1 _ (List.mem_of_getElem? hu1)) hw) hub) ?_
      rintro v M1 ⟨u2, hv, hd, rfl⟩
      subst hv
      simp only [List.cons_append, List.nil_append]
      refine L_indexAddr rfl rfl rfl el43.h rfl (by omega) ?_
      obtain ⟨u0, hu0⟩ := getEl (show k < cur.length by omega)
      refine L_storeEl u2 rfl rfl pk rfl hu0 rfl pk (.inl agg79.h) ?_
      refine s3 ?_
      refine L_binV rfl rfl rfl (bv_addR (by unfold inR; omega)) ?_
      refine s2 ?_
      refine ⟨(k + 1, cur.set k u2), sb, ms, ?_, ?_⟩
      · exact ⟨by dsimp only; omega, by simpa using hlen, map_take_set GT.dat GT.dat hdat (by omega) hu1 hd⟩
      · dsimp only; omega
    · refine W_exit ?_
      refine s6 ?_
      -- return 1 (R6)
      refine res1 rfl (ResOK.tmp rfl) ⟨⟨some ⟨g, 0, none⟩, x1.length, 79, cur, []⟩, ?_, ?_, rfl⟩ ms
      · show _ = Value.slice _ cur.length _
        rw [hlen]
      · have hk2 : x1.length ≤ k := by simpa using hc3
        rw [List.take_of_length_le (by omega), List.take_of_length_le (by omega)] at hdat
        exact hdat
end Go.Proofs.SL
namespace Go.Proofs.SL
open Go
set_option maxHeartbeats 2000000
instance fn14 : FnF Tryz.prog 14 := ⟨⟨_, Tryz.func14, by kernel_rfl, rfl⟩⟩
instance fn12 : FnF Tryz.prog 12 := ⟨⟨_, Tryz.func12, by kernel_rfl, rfl⟩⟩
instance fld101_6 : FldF Tryz.prog 101 6 7 := ⟨by kernel_rfl⟩
instance fld131_4 : FldF Tryz.prog 131 4 5 := ⟨by kernel_rfl⟩
instance fld131_5 : FldF Tryz.prog 131 5 6 := ⟨by kernel_rfl⟩
instance fn141 : FnF Tryz.prog 141 := ⟨⟨_, Tryz.func141, by kernel_rfl, rfl⟩⟩
instance fld131_0 : FldF Tryz.prog 131 0 0 := ⟨by kernel_rfl⟩
instance fld131_1 : FldF Tryz.prog 131 1 2 := ⟨by kernel_rfl⟩
instance fld131_2 : FldF Tryz.prog 131 2 3 := ⟨by kernel_rfl⟩
instance fld131_3 : FldF Tryz.prog 131 3 4 := ⟨by kernel_rfl⟩
instance fn144 : FnF Tryz.prog 144 := ⟨⟨_, Tryz.func144, by kernel_rfl, rfl⟩⟩
instance fld131_6 : FldF Tryz.prog 131 6 7 := ⟨by kernel_rfl⟩
instance fn133 : FnF Tryz.prog 133 := ⟨⟨_, Tryz.func133, by kernel_rfl, rfl⟩⟩
instance el57 : ElF Tryz.prog 57 131 8 96 [.int .i64 0, .int .i64 0, .int .i64 0, .int .i64 0, .int .i64 0, .slice none 0 0, .slice none 0 0, .bool false] := ⟨by kernel_rfl⟩
instance agg131 : AggF Tryz.prog 131 8 := ⟨by kernel_rfl⟩
instance fn107 : FnF Tryz.prog 107 := ⟨⟨_, Tryz.func107, by kernel_rfl, rfl⟩⟩
instance fn116 : FnF Tryz.prog 116 := ⟨⟨_, Tryz.func116, by kernel_rfl, rfl⟩⟩
theorem eqLead_spec (w : World) (t1 t2 : T_Lead) (h1 : GT.rd w [] t1) (h2 : GT.rd w [] t2) : Spec Tryz.prog 133 [.agg (GT.cells t1).toArray, .agg (GT.cells t2).toArray].toArray w [] (IsV (.bool (eqB (GT.dat t1) (GT.dat t2)))) := by
  obtain ⟨⟨a11, a12⟩, a2, a3, a4, a5, a6, a7⟩ := t1
  obtain ⟨⟨b11, b12⟩, b2, b3, b4, b5, b6, b7⟩ := t2
  change Spec _ _ [Value.agg #[.int .i64 a11, .int .i64 a12, .int .i64 a2, .int .i64 a3, .int .i64 a4, a5.hdr, a6.hdr, .bool a7], Value.agg #[.int .i64 b11, .int .i64 b12, .int .i64 b2, .int .i64 b3, .int .i64 b4, b5.hdr, b6.hdr, .bool b7]].toArray w [] _
  refine Spec.intro Tryz.func133 rfl Tryz.ntmps133 rfl ?_
  refine s2 ?_
  refine bx fun bk2 => ?_
  refine bx fun bk3 => ?_
  refine s6 ?_
  refine L_loadW rfl rfl (RdC.seg (by first | exact RdC.blk mm) 0 2 rfl) (by exact agg71.h) ?_
  refine s1 ?_
  refine L_loadW rfl rfl (RdC.seg (by first | exact RdC.blk mm) 0 2 rfl) (by exact agg71.h) ?_
  refine L_callX rfl fn91.h rfl (by exact fun w hw => eqId_spec w (a11, a12) (b11, b12) (rd_carry (h1.1) hw) (rd_carry (h2.1) hw)) ?_
  refine s2 ?_
  refine kp [2, 3, 10] ?_
  refine W_cond rfl (fun hc1 => ?_) (fun hc1 => ?_)
  · refine s5 ?_
    -- return 1 (R2)
    refine res1 rfl (ResOK.tmp rfl) ⟨?_, rfl⟩ ms
    clear h1 h2
    first
      | (refine congrArg Value.bool (Eq.symm (eqB_false.2 fun e => ?_)); simp only [dat_pair, dat_int, dat_bool, dat_str, Prod.mk.injEq, eqB_nf, eqB_nt] at *; simp_all; done)
      | (refine congrArg Value.bool (Eq.symm (eqB_true.2 ?_)); simp only [dat_pair, dat_int, dat_bool, dat_str, Prod.mk.injEq, eqB_nf, eqB_nt] at *; simp_all; done)
      | (refine congrArg Value.bool (Eq.symm (eqB_false.2 fun e => ?_)); try simp only [dat_pair, dat_int, dat_bool, dat_str, Prod.mk.injEq] at e; simp_all; done)
      | (refine congrArg Value.bool (Eq.symm (eqB_true.2 ?_)); try simp only [dat_pair, dat_int, dat_bool, dat_str, Prod.mk.injEq]; simp_all; done)
  · refine s5 ?_
    refine L_load rfl rfl (by first | exact RdC.blk mm) one3.h rfl ?_
    refine s1 ?_
    refine L_load rfl rfl (by first | exact RdC.blk mm) one3.h rfl ?_
    refine s2 ?_
    refine kp [2, 3, 15] ?_
    refine W_cond rfl (fun hc3 => ?_) (fun hc3 => ?_)
    · refine s5 ?_
      -- return 2 (R4)
      refine res1 rfl (ResOK.tmp rfl) ⟨?_, rfl⟩ ms
      clear h1 h2
      first
        | (refine congrArg Value.bool (Eq.symm (eqB_false.2 fun e => ?_)); simp only [dat_pair, dat_int, dat_bool, dat_str, Prod.mk.injEq, eqB_nf, eqB_nt] at *; simp_all; done)
        | (refine congrArg Value.bool (Eq.symm (eqB_true.2 ?_)); simp only [dat_pair, dat_int, dat_bool, dat_str, Prod.mk.injEq, eqB_nf, eqB_nt] at *; simp_all; done)
        | (refine congrArg Value.bool (Eq.symm (eqB_false.2 fun e => ?_)); try simp only [dat_pair, dat_int, dat_bool, dat_str, Prod.mk.injEq] at e; simp_all; done)
        | (refine congrArg Value.bool (Eq.symm (eqB_true.2 ?_)); try simp only [dat_pair, dat_int, dat_bool, dat_str, Prod.mk.injEq]; simp_all; done)
    · refine s5 ?_
      refine L_load rfl rfl (by first | exact RdC.blk mm) one3.h rfl ?_
      refine s1 ?_
      refine L_load rfl rfl (by first | exact RdC.blk mm) one3.h rfl ?_
      refine s2 ?_
      refine kp [2, 3, 20] ?_
      refine W_cond rfl (fun hc5 => ?_) (fun hc5 => ?_)
      · refine s5 ?_
        -- return 3 (R6)
        refine res1 rfl (ResOK.tmp rfl) ⟨?_, rfl⟩ ms
        clear h1 h2
        first
          | (refine congrArg Value.bool (Eq.symm (eqB_false.2 fun e => ?_)); simp only [dat_pair, dat_int, dat_bool, dat_str, Prod.mk.injEq, eqB_nf, eqB_nt] at *; simp_all; done)
          | (refine congrArg Value.bool (Eq.symm (eqB_true.2 ?_)); simp only [dat_pair, dat_int, dat_bool, dat_str, Prod.mk.injEq, eqB_nf, eqB_nt] at *; simp_all; done)
          | (refine congrArg Value.bool (Eq.symm (eqB_false.2 fun e => ?_)); try simp only [dat_pair, dat_int, dat_bool, dat_str, Prod.mk.injEq] at e; simp_all; done)
          | (refine congrArg Value.bool (Eq.symm (eqB_true.2 ?_)); try simp only [dat_pair, dat_int, dat_bool, dat_str, Prod.mk.injEq]; simp_all; done)
      · refine s5 ?_
        refine L_load rfl rfl (by first | exact RdC.blk mm) one3.h rfl ?_
        refine s1 ?_
        refine L_load rfl rfl (by first | exact RdC.blk mm) one3.h rfl ?_
        refine s2 ?_
        refine kp [2, 3, 25] ?_
        refine W_cond rfl (fun hc7 => ?_) (fun hc7 => ?_)
        · refine s5 ?_
          -- return 4 (R8)
          refine res1 rfl (ResOK.tmp rfl) ⟨?_, rfl⟩ ms
          clear h1 h2
          first
            | (refine congrArg Value.bool (Eq.symm (eqB_false.2 fun e => ?_)); simp only [dat_pair, dat_int, dat_bool, dat_str, Prod.mk.injEq, eqB_nf, eqB_nt] at *; simp_all; done)
            | (refine congrArg Value.bool (Eq.symm (eqB_true.2 ?_)); simp only [dat_pair, dat_int, dat_bool, dat_str, Prod.mk.injEq, eqB_nf, eqB_nt] at *; simp_all; done)
            | (refine congrArg Value.bool (Eq.symm (eqB_false.2 fun e => ?_)); try simp only [dat_pair, dat_int, dat_bool, dat_str, Prod.mk.injEq] at e; simp_all; done)
            | (refine congrArg Value.bool (Eq.symm (eqB_true.2 ?_)); try simp only [dat_pair, dat_int, dat_bool, dat_str, Prod.mk.injEq]; simp_all; done)
        · refine s5 ?_
          refine L_load rfl rfl (by first | exact RdC.blk mm) one51.h rfl ?_
          refine s1 ?_
          refine L_load rfl rfl (by first | exact RdC.blk mm) one51.h rfl ?_
          refine L_callX rfl fn93.h rfl (by exact fun w hw => eqIdS_spec w _ _ (rd_carry (h1.2.2.2.2.1) hw) (rd_carry (h2.2.2.2.2.1) hw)) ?_
          refine s2 ?_
          refine kp [2, 3, 31] ?_
          refine W_cond rfl (fun hc9 => ?_) (fun hc9 => ?_)
          · refine s5 ?_
            -- return 5 (R10)
            refine res1 rfl (ResOK.tmp rfl) ⟨?_, rfl⟩ ms
            clear h1 h2
            first
              | (refine congrArg Value.bool (Eq.symm (eqB_false.2 fun e => ?_)); simp only [dat_pair, dat_int, dat_bool, dat_str, Prod.mk.injEq, eqB_nf, eqB_nt] at *; simp_all; done)
              | (refine congrArg Value.bool (Eq.symm (eqB_true.2 ?_)); simp only [dat_pair, dat_int, dat_bool, dat_str, Prod.mk.injEq, eqB_nf, eqB_nt] at *; simp_all; done)
              | (refine congrArg Value.bool (Eq.symm (eqB_false.2 fun e => ?_)); try simp only [dat_pair, dat_int, dat_bool, dat_str, Prod.mk.injEq] at e; simp_all; done)
              | (refine congrArg Value.bool (Eq.symm (eqB_true.2 ?_)); try simp only [dat_pair, dat_int, dat_bool, dat_str, Prod.mk.injEq]; simp_all; done)
          · refine s5 ?_
            refine L_load rfl rfl (by first | exact RdC.blk mm) one35.h rfl ?_
            refine s1 ?_
            refine L_load rfl rfl (by first | exact RdC.blk mm) one35.h rfl ?_
            refine L_callX rfl fn12.h rfl (by exact fun w hw => eqIntS_spec w _ _ (rd_carry (h1.2.2.2.2.2.1) hw) (rd_carry (h2.2.2.2.2.2.1) hw)) ?_
            refine s2 ?_
            refine kp [2, 3, 37] ?_
            refine W_cond rfl (fun hc11 => ?_) (fun hc11 => ?_)
            · refine s5 ?_
              -- return 6 (R12)
              refine res1 rfl (ResOK.tmp rfl) ⟨?_, rfl⟩ ms
              clear h1 h2
              first
                | (refine congrArg Value.bool (Eq.symm (eqB_false.2 fun e => ?_)); simp only [dat_pair, dat_int, dat_bool, dat_str, Prod.mk.injEq, eqB_nf, eqB_nt] at *; simp_all; done)
                | (refine congrArg Value.bool (Eq.symm (eqB_true.2 ?_)); simp only [dat_pair, dat_int, dat_bool, dat_str, Prod.mk.injEq, eqB_nf, eqB_nt] at *; simp_all; done)
                | (refine congrArg Value.bool (Eq.symm (eqB_false.2 fun e => ?_)); try simp only [dat_pair, dat_int, dat_bool, dat_str, Prod.mk.injEq] at e; simp_all; done)
                | (refine congrArg Value.bool (Eq.symm (eqB_true.2 ?_)); try simp only [dat_pair, dat_int, dat_bool, dat_str, Prod.mk.injEq]; simp_all; done)
            · refine s5 ?_
              refine L_load rfl rfl (by first | exact RdC.blk mm) one4.h rfl ?_
              refine s1 ?_
              refine L_load rfl rfl (by first | exact RdC.blk mm) one4.h rfl ?_
              refine s2 ?_
              refine kp [42] ?_
              refine W_cond rfl (fun hc13 => ?_) (fun hc13 => ?_)
              · refine s5 ?_
                -- return 7 (R14)
                refine res1 rfl (ResOK.tmp rfl) ⟨?_, rfl⟩ ms
                clear h1 h2
                first
                  | (refine congrArg Value.bool (Eq.symm (eqB_false.2 fun e => ?_)); simp only [dat_pair, dat_int, dat_bool, dat_str, Prod.mk.injEq, eqB_nf, eqB_nt] at *; simp_all; done)
                  | (refine congrArg Value.bool (Eq.symm (eqB_true.2 ?_)); simp only [dat_pair, dat_int, dat_bool, dat_str, Prod.mk.injEq, eqB_nf, eqB_nt] at *; simp_all; done)
                  | (refine congrArg Value.bool (Eq.symm (eqB_false.2 fun e => ?_)); try simp only [dat_pair, dat_int, dat_bool, dat_str, Prod.mk.injEq] at e; simp_all; done)
                  | (refine congrArg Value.bool (Eq.symm (eqB_true.2 ?_)); try simp only [dat_pair, dat_int, dat_bool, dat_str, Prod.mk.injEq]; simp_all; done)
              · refine s6 ?_
                -- return 8 (R15)
                refine res1 rfl (ResOK.tmp rfl) ⟨?_, rfl⟩ ms
                clear h1 h2
                first
                  | (refine congrArg Value.bool (Eq.symm (eqB_false.2 fun e => ?_)); simp only [dat_pair, dat_int, dat_bool, dat_str, Prod.mk.injEq, eqB_nf, eqB_nt] at *; simp_all; done)
                  | (refine congrArg Value.bool (Eq.symm (eqB_true.2 ?_)); simp only [dat_pair, dat_int, dat_bool, dat_str, Prod.mk.injEq, eqB_nf, eqB_nt] at *; simp_all; done)
                  | (refine congrArg Value.bool (Eq.symm (eqB_false.2 fun e => ?_)); try simp only [dat_pair, dat_int, dat_bool, dat_str, Prod.mk.injEq] at e; simp_all; done)
                  | (refine congrArg Value.bool (Eq.symm (eqB_true.2 ?_)); try simp only [dat_pair, dat_int, dat_bool, dat_str, Prod.mk.injEq]; simp_all; done)
theorem szLead_spec (w : World) (t1 : T_Lead) (left : Int) (hl : 0 ≤ left) (hm : left ≤ 1048576) (h1 : GT.rd w [] t1) (ho : Ok.ok (GT.dat t1)) : Spec Tryz.prog 107 [.agg (GT.cells t1).toArray, .int .i64 left].toArray w [] (IsV (.int .i64 (if (Bk.bulk t1 : Int) ≤ left then left - (Bk.bulk t1 : Int) else -1))) := by
  obtain ⟨⟨a11, a12⟩, a2, a3, a4, a5, a6, a7⟩ := t1
  change Spec _ _ [Value.agg #[.int .i64 a11, .int .i64 a12, .int .i64 a2, .int .i64 a3, .int .i64 a4, a5.hdr, a6.hdr, .bool a7], .int .i64 left].toArray w [] _
  refine Spec.intro Tryz.func107 rfl Tryz.ntmps107 rfl ?_
  refine s2 ?_
  refine bx fun bk2 => ?_
  refine s5 ?_
  refine L_load rfl rfl (by first | exact RdC.blk mm) one66.h rfl ?_
  refine s1 ?_
  refine L_callX rfl fn58.h rfl (by exact fun w hw => szIdS_spec w _ (left) (by omega) (by omega) (rd_carry (h1.2.2.2.2.1) hw) ho.2.2.2.2.1) ?_
  refine s8 ?_
  refine kp [1, 2, 10] ?_
  refine W_cond rfl (fun hc2 => ?_) (fun hc2 => ?_)
  · have hb4 : ¬ ((Bk.bulk a5 : Int) ≤ left) := by
      intro hn
      rw [if_pos hn] at hc2; simp at hc2; omega
    refine s5 ?_
    -- return 1 (R3)
    refine res1 rfl (ResOK.tmp rfl) ⟨?_, rfl⟩ ms
    try simp only [bulk_pair, bulk_int, bulk_bool, bulk_str, Int.natCast_add, Int.natCast_zero] at *
    all_goals first
      | rfl
      | (rw [if_pos (by omega)] <;> (congr 1 <;> omega))
      | (rw [if_neg (by omega)])
  · have hb4 : (Bk.bulk a5 : Int) ≤ left := by
      rcases Int.decLt (left) (Bk.bulk a5 : Int) with hn | hn
      · omega
      · rw [if_neg (by omega)] at hc2; simp at hc2
    rw [if_pos hb4]
    refine s4 ?_
    refine L_load rfl rfl (by first | exact RdC.blk mm) one35.h rfl ?_
    refine s1 ?_
    refine L_callX rfl fn141.h rfl (by exact fun w hw => szIntS_spec w _ (left - (Bk.bulk a5 : Int)) (by omega) (by omega) (rd_carry (h1.2.2.2.2.2.1) hw) ho.2.2.2.2.2.1) ?_
    refine s8 ?_
    refine kp [1, 16] ?_
    refine W_cond rfl (fun hc5 => ?_) (fun hc5 => ?_)
    · have hb5 : ¬ ((Bk.bulk a6 : Int) ≤ left - (Bk.bulk a5 : Int)) := by
        intro hn
        rw [if_pos hn] at hc5; simp at hc5; omega
      refine s5 ?_
      -- return 2 (R6)
      refine res1 rfl (ResOK.tmp rfl) ⟨?_, rfl⟩ ms
      try simp only [bulk_pair, bulk_int, bulk_bool, bulk_str, Int.natCast_add, Int.natCast_zero] at *
      all_goals first
        | rfl
        | (rw [if_pos (by omega)] <;> (congr 1 <;> omega))
        | (rw [if_neg (by omega)])
    · have hb5 : (Bk.bulk a6 : Int) ≤ left - (Bk.bulk a5 : Int) := by
        rcases Int.decLt (left - (Bk.bulk a5 : Int)) (Bk.bulk a6 : Int) with hn | hn
        · omega
        · rw [if_neg (by omega)] at hc5; simp at hc5
      rw [if_pos hb5]
      refine s7 ?_
      -- return 3 (R7)
      refine res1 rfl (ResOK.tmp rfl) ⟨?_, rfl⟩ ms
      try simp only [bulk_pair, bulk_int, bulk_bool, bulk_str, Int.natCast_add, Int.natCast_zero] at *
      all_goals first
        | rfl
        | (rw [if_pos (by omega)] <;> (congr 1 <;> omega))
        | (rw [if_neg (by omega)])
theorem toLead_spec (w : World) (t1 : T_Lead) (h1 : GT.rd w [] t1) (hb : Bk.bulk t1 ≤ 1048576) : Spec Tryz.prog 116 [.agg (GT.cells t1).toArray].toArray w [] (fun v M => ∃ t2 : T_Lead, v = .agg (GT.cells t2).toArray ∧ GT.dat t2 = GT.dat t1 ∧ M = [treeH t2]) := by
  obtain ⟨⟨a11, a12⟩, a2, a3, a4, a5, a6, a7⟩ := t1
  have hbk_0 : Bk.bulk (a11, a12) ≤ 1048576 := by (try simp only [bulk_pair, bulk_int, bulk_bool, bulk_str] at hb ⊢); omega
  have hbk_4 : Bk.bulk a5 ≤ 1048576 := by (try simp only [bulk_pair, bulk_int, bulk_bool, bulk_str] at hb ⊢); omega
  have hbk_5 : Bk.bulk a6 ≤ 1048576 := by (try simp only [bulk_pair, bulk_int, bulk_bool, bulk_str] at hb ⊢); omega
  change Spec _ _ [Value.agg #[.int .i64 a11, .int .i64 a12, .int .i64 a2, .int .i64 a3, .int .i64 a4, a5.hdr, a6.hdr, .bool a7]].toArray w [] _
  refine Spec.intro Tryz.func116 rfl Tryz.ntmps116 rfl ?_
  refine s2 ?_
  refine bx fun bk1 => ?_
  refine al fun bk2 => ?_
  refine s3 ?_
  refine al fun bk3 => ?_
  refine s4 ?_
  refine L_loadW rfl rfl (RdC.seg (by first | exact RdC.blk mm) 0 2 rfl) (by exact agg62.h) ?_
  refine L_callR rfl fn72.h rfl (by exact fun w hw => toId_spec w (a11, a12) (rd_carry (h1.1) hw) hbk_0) ?_
  rintro v M1 ⟨n1t, hv, hd0, rfl⟩
  obtain ⟨n11, n12⟩ := n1t
  subst hv
  simp only [List.cons_append, List.nil_append]
  refine s1 ?_
  refine L_storeA (fo := 0) rfl rfl pk (by exact agg71.h) (Nat.le_of_ble_eq_true rfl) (by first | (simp [Value.oneCell', TL.hdr]; done) | (simp [Value.oneCell', TL.hdr, Value.cells]; done) | exact fun v hv => GT.one _ v hv) (by simp only [cells_pair, cells_int, cells_bool, cells_str, cells_TL, List.take_zero, List.take_succ_cons, List.drop_zero, List.drop_succ_cons, List.set_cons_zero, List.set_cons_succ, List.length_cons, List.length_nil, List.cons_append, List.nil_append, List.append_nil, Nat.zero_add, Nat.reduceAdd]; rfl) ?_
  refine s4 ?_
  refine L_load rfl rfl (by first | exact RdC.blk mm) one3.h rfl ?_
  refine s6 ?_
  refine L_load rfl rfl (by first | exact RdC.blk mm) one3.h rfl ?_
  refine s6 ?_
  refine L_load rfl rfl (by first | exact RdC.blk mm) one3.h rfl ?_
  refine s6 ?_
  refine L_load rfl rfl (by first | exact RdC.blk mm) one66.h rfl ?_
  refine L_callR rfl fn74.h rfl (by exact fun w hw => toIdS_spec w _ (rd_carry (h1.2.2.2.2.1) hw) hbk_4) ?_
  rintro v M1 ⟨n5t, hv, hd4, rfl⟩
  subst hv
  simp only [List.cons_append, List.nil_append]
  refine s6 ?_
  refine L_load rfl rfl (by first | exact RdC.blk mm) one35.h rfl ?_
  refine L_callR rfl fn144.h rfl (by exact fun w hw => toIntS_spec w _ (rd_carry (h1.2.2.2.2.2.1) hw) hbk_5) ?_
  rintro v M1 ⟨n6t, hv, hd5, rfl⟩
  subst hv
  simp only [List.cons_append, List.nil_append]
  refine s6 ?_
  refine L_load rfl rfl (by first | exact RdC.blk mm) one4.h rfl ?_
  refine s5 ?_
  refine L_loadW rfl rfl (by first | exact RdC.blk mm) (by exact agg101.h) ?_
  refine L_storeW rfl rfl pk (by exact agg101.h) (by rfl) (by first | (simp [Value.oneCell', TL.hdr]; done) | (simp [Value.oneCell', TL.hdr, Value.cells]; done) | exact fun v hv => GT.one _ v hv) ?_
  refine s1 ?_
  refine W_conv (M' := treeH (n6t, a7) :: _) (fun w h => pairPick pk (h.addFlat (flat_bool _))) ?_
  refine W_conv (M' := treeH (n5t, n6t, a7) :: _) (fun w h => pairPick pk h) ?_
  refine W_conv (M' := treeH (a4, n5t, n6t, a7) :: _) (fun w h => tree_snd (flat_int (h1.2.2.2.1)) h) ?_
  refine W_conv (M' := treeH (a3, a4, n5t, n6t, a7) :: _) (fun w h => tree_snd (flat_int (h1.2.2.1)) h) ?_
  refine W_conv (M' := treeH (a2, a3, a4, n5t, n6t, a7) :: _) (fun w h => tree_snd (flat_int (h1.2.1)) h) ?_
  refine W_conv (M' := treeH ((n11, n12), a2, a3, a4, n5t, n6t, a7) :: _) (fun w h => pairPick pk h) ?_
  refine s1 ?_
  -- return 1 (R9)
  refine res1 rfl (ResOK.cell rfl mm (by exact agg101.h)) ⟨((n11, n12), a2, a3, a4, n5t, n6t, a7), rfl, by simp only [dat_pair, hd0, hd4, hd5], rfl⟩ ms
theorem eqLeadS_spec (w : World) (t1 t2 : TL T_Lead) (h1 : GT.rd w [] t1) (h2 : GT.rd w [] t2) : Spec Tryz.prog 90 [t1.hdr, t2.hdr].toArray w [] (IsV (.bool (eqB (GT.dat t1) (GT.dat t2)))) := by
  obtain ⟨a1, c1, e1, x1, y1⟩ := t1
  obtain ⟨a2, c2, e2, x2, y2⟩ := t2
  have hm1 : x1.length ≤ 9223372036854775807 := rd_len h1
  have hm2 : x2.length ≤ 9223372036854775807 := rd_len h2
  dsimp only [TL.hdr]
  refine Spec.intro Tryz.func90 rfl Tryz.ntmps90 rfl ?_
  refine s8 ?_
  refine L_lenS rfl rfl el44.h ?_
  refine s1 ?_
  refine L_lenS rfl rfl el44.h ?_
  refine s2 ?_
  refine kp [0, 1, 10] ?_
  refine W_cond rfl (fun hc1 => ?_) (fun hc1 => ?_)
  · refine s5 ?_
    -- return 1 (R2)
    refine res1 rfl (ResOK.tmp rfl) ⟨?_, rfl⟩ ms
    refine congrArg Value.bool (Eq.symm (eqB_false.2 fun e => ?_))
    simp at hc1
    exact hc1 (by have := congrArg List.length e; simp [dat_TL] at this; omega)
  · have hl : x1.length = x2.length := by simp at hc1; omega
    refine s7 ?_
    refine W_loopC (σ := Nat) 0 (fun (k : Nat) => [(5, .int .i64 (k : Int))]) (fun (k : Nat) => []) (fun (k : Nat) => k ≤ x1.length ∧ (x1.map GT.dat).take k = (x2.map GT.dat).take k) (fun (k : Nat) => x1.length - k) [(0, _), (1, _)] [] ?_ sb ms ?_
    · exact ⟨Nat.zero_le _, rfl⟩
    · rintro k ⟨hk, ht⟩
      refine kq [0, 1, 5] ?_
      refine s5 ?_
      refine L_lenS rfl rfl el44.h ?_
      refine s2 ?_
      refine kp [0, 1, 5, 14] ?_
      refine W_cond rfl (fun hc4 => ?_) (fun hc4 => ?_)
      · have hk1 : k < x1.length := by simpa using hc4
        obtain ⟨g1, o1, rfl⟩ := rd_addr h1 hk1
        obtain ⟨g2, o2, rfl⟩ := rd_addr (k := k) h2 (show k < x2.length by omega)
        obtain ⟨u1, hu1⟩ := getEl hk1
        obtain ⟨u2, hu2⟩ := getEl (show k < x2.length by omega)
        refine s4 ?_
        refine W_D0 [26] mix (by kernel_rfl) rfl ?_
        refine s2 ?_
        refine D_indexAddr _ GC.none (OpV.t rfl) (OpV.t rfl) el44.h (fun hg => ⟨rfl, by (try dsimp only); omega⟩) ?_
        refine D_loadW GC.none (OpV.t rfl) (fun hg => (by first | exact RdC.blk mm | exact RdC.old (Cells.el h1 rfl hu1) | exact RdC.old (Cells.el h2 rfl hu2))) (by exact agg101.h) ?_
        refine s2 ?_
        refine D_indexAddr _ GC.none (OpV.t rfl) (OpV.t rfl) el44.h (fun hg => ⟨rfl, by (try dsimp only); omega⟩) ?_
        refine D_loadW GC.none (OpV.t rfl) (fun hg => (by first | exact RdC.blk mm | exact RdC.old (Cells.el h1 rfl hu1) | exact RdC.old (Cells.el h2 rfl hu2))) (by exact agg101.h) ?_
        refine D_callX GC.none fn133.h (OpVs.cons (OpV.t rfl) (OpVs.cons (OpV.t rfl) (OpVs.nil))) (by exact fun hg w F hF hM => (fun w hw => eqLead_spec w _ _ (rd_carry (h1.2.2.1 _ (List.mem_of_getElem? hu1)) hw) (rd_carry (h2.2.2.1 _ (List.mem_of_getElem? hu2)) hw)) w hF) ?_
        refine s13 ?_
        refine kp [0, 1, 5, 26] ?_
        refine W_cond rfl (fun hc6 => ?_) (fun hc6 => ?_)
        · refine s5 ?_
          -- return 2 (R7)
          refine res1 rfl (ResOK.tmp rfl) ⟨?_, rfl⟩ ms
          refine congrArg Value.bool (Eq.symm (eqB_false.2 fun e => ?_))
          simp at hc6
          replace e : x1.map GT.dat = x2.map GT.dat := e
          have e2 := congrArg (fun l => l[k]?) e
          simp only [List.getElem?_map, hu1, hu2, Option.map_some, Option.some.injEq] at e2
          exact hc6 (by simpa [dat_int, dat_str, dat_bool] using e2)
        · refine s3 ?_
          refine L_binV rfl rfl rfl (bv_addR (by unfold inR; omega)) ?_
          refine s2 ?_
          refine ⟨k + 1, sb, ms, ?_, ?_⟩
          · exact ⟨by omega, take_succ_eq ht (by rw [List.getElem?_map, hu1]; rfl) (by rw [List.getElem?_map, hu2]; rfl) (by simpa [dat_int, dat_str, dat_bool] using hc6)⟩
          · (try dsimp only); omega
      · refine W_exit ?_
        refine s5 ?_
        -- return 3 (R8)
        refine res1 rfl (ResOK.tmp rfl) ⟨?_, rfl⟩ ms
        refine congrArg Value.bool (Eq.symm (eqB_true.2 ?_))
        have hk2 : x1.length ≤ k := by simpa using hc4
        have h3 := ht
        rw [List.take_of_length_le (by simp; omega), List.take_of_length_le (by simp; omega)] at h3
        exact h3
theorem szLeadS_spec (w : World) (t1 : TL T_Lead) (left : Int) (hl : 0 ≤ left) (hm : left ≤ 1048576) (h1 : GT.rd w [] t1) (ho : Ok.ok (GT.dat t1)) : Spec Tryz.prog 56 [t1.hdr, .int .i64 left].toArray w [] (IsV (.int .i64 (if (Bk.bulk t1 : Int) ≤ left then left - (Bk.bulk t1 : Int) else -1))) := by
  obtain ⟨a1, c1, e1, x1, y1⟩ := t1
  have hm1 : x1.length ≤ 9223372036854775807 := rd_len h1
  rw [bulk_TL]
  dsimp only [TL.hdr]
  refine Spec.intro Tryz.func56 rfl Tryz.ntmps56 rfl ?_
  refine s8 ?_
  refine L_lenS rfl rfl el57.h ?_
  refine L_binV rfl rfl rfl (bv_subR (by unfold inR; omega)) ?_
  refine s8 ?_
  refine kp [0, 1, 11] ?_
  refine W_cond rfl (fun hc2 => ?_) (fun hc2 => ?_)
  · have hb0 : left - (x1.length : Int) < 0 := by simpa using hc2
    refine s5 ?_
    -- return 1 (R3)
    refine res1 rfl (ResOK.tmp rfl) ⟨?_, rfl⟩ ms
    first
      | (rw [if_neg (by simp only [Int.natCast_add]; omega)]; done)
      | (rw [if_neg (by have := bulks_take_le x1 (k + 1); simp only [Int.natCast_add]; omega)]; done)
      | (have hk2 : x1.length ≤ k := by simpa using hc5
         rw [List.take_of_length_le hk2] at ht ⊢
         rw [if_pos (by simp only [Int.natCast_add]; omega)]; congr 1; simp only [Int.natCast_add]; omega)
  · have hb0 : ¬ (left - (x1.length : Int) < 0) := by simpa using hc2
    refine s7 ?_
    have h0 : left - (x1.length : Int) = left - (x1.length : Int) - (bulks (x1.take 0) : Int) := by simp [bulks]
    rw [h0]
    refine W_loopC (σ := Nat) 0 (fun (k : Nat) => [(1, .int .i64 (left - (x1.length : Int) - (bulks (x1.take k) : Int))), (5, .int .i64 (k : Int))]) (fun (k : Nat) => []) (fun (k : Nat) => k ≤ x1.length ∧ 0 ≤ (left - (x1.length : Int) - (bulks (x1.take k) : Int))) (fun (k : Nat) => x1.length - k) [(0, _)] [] ?_ sb ms ?_
    · exact ⟨Nat.zero_le _, by simp [bulks]; omega⟩
    · rintro k ⟨hk, ht⟩
      refine kq [0, 1, 5] ?_
      refine s5 ?_
      refine L_lenS rfl rfl el57.h ?_
      refine s2 ?_
      refine kp [0, 1, 5, 15] ?_
      refine W_cond rfl (fun hc5 => ?_) (fun hc5 => ?_)
      · have hk1 : k < x1.length := by simpa using hc5
        obtain ⟨g1, o1, rfl⟩ := rd_addr h1 hk1
        obtain ⟨u1, hu1⟩ := getEl hk1
        have hbs := bulks_take_succ hu1
        have hble := bulks_take_le x1 (k + 1)
        refine s7 ?_
        refine L_indexAddr rfl rfl rfl el57.h rfl (by omega) ?_
        refine L_loadW rfl rfl (by first | exact RdC.blk mm | exact RdC.old (Cells.el h1 rfl hu1)) (by exact agg131.h) ?_
        refine s1 ?_
        refine L_callX rfl fn107.h rfl (by exact fun w hw => szLead_spec w _ _ (by omega) (by omega) (rd_carry (h1.2.2.1 _ (List.mem_of_getElem? hu1)) hw) (ho.2 _ (List.mem_map.2 ⟨u1, List.mem_of_getElem? hu1, rfl⟩))) ?_
        refine s7 ?_
        refine kp [0, 1, 5, 25] ?_
        refine W_cond rfl (fun hc8 => ?_) (fun hc8 => ?_)
        · have hb1 : ¬ ((Bk.bulk u1 : Int) ≤ (left - (x1.length : Int) - (bulks (x1.take k) : Int))) := by
            intro hn
            rw [if_pos hn] at hc8; simp at hc8; omega
          refine s5 ?_
          -- return 2 (R9)
          refine res1 rfl (ResOK.tmp rfl) ⟨?_, rfl⟩ ms
          first
            | (rw [if_neg (by simp only [Int.natCast_add]; omega)]; done)
            | (rw [if_neg (by have := bulks_take_le x1 (k + 1); simp only [Int.natCast_add]; omega)]; done)
            | (have hk2 : x1.length ≤ k := by simpa using hc5
               rw [List.take_of_length_le hk2] at ht ⊢
               rw [if_pos (by simp only [Int.natCast_add]; omega)]; congr 1; simp only [Int.natCast_add]; omega)
        · have hb1 : (Bk.bulk u1 : Int) ≤ (left - (x1.length : Int) - (bulks (x1.take k) : Int)) := by
            rcases Int.decLt (left - (x1.length : Int) - (bulks (x1.take k) : Int)) (Bk.bulk u1 : Int) with hn | hn
            · omega
            · rw [if_neg (by omega)] at hc8; simp at hc8
          rw [if_pos hb1]
          have hnx : (left - (x1.length : Int) - (bulks (x1.take k) : Int)) - (Bk.bulk u1 : Int) = left - (x1.length : Int) - (bulks (x1.take (k + 1)) : Int) := by rw [hbs]; omega
          rw [hnx]
          refine s3 ?_
          refine L_binV rfl rfl rfl (bv_addR (by unfold inR; omega)) ?_
          refine s2 ?_
          refine ⟨k + 1, sb, ms, ?_, ?_⟩
          · exact ⟨by omega, by omega⟩
          · (try dsimp only); omega
      · refine W_exit ?_
        refine s6 ?_
        -- return 3 (R10)
        refine res1 rfl (ResOK.tmp rfl) ⟨?_, rfl⟩ ms
        first
          | (rw [if_neg (by simp only [Int.natCast_add]; omega)]; done)
          | (rw [if_neg (by have := bulks_take_le x1 (k + 1); simp only [Int.natCast_add]; omega)]; done)
          | (have hk2 : x1.length ≤ k := by simpa using hc5
             rw [List.take_of_length_le hk2] at ht ⊢
             rw [if_pos (by simp only [Int.natCast_add]; omega)]; congr 1; simp only [Int.natCast_add]; omega)
theorem toLeadS_spec (w : World) (t1 : TL T_Lead) (h1 : GT.rd w [] t1) (hb : Bk.bulk t1 ≤ 1048576) : Spec Tryz.prog 71 [t1.hdr].toArray w [] (fun v M => ∃ t2 : TL T_Lead, v = t2.hdr ∧ GT.dat t2 = GT.dat t1 ∧ M = [treeH t2]) := by
  obtain ⟨a1, c1, e1, x1, y1⟩ := t1
  rw [bulk_TL] at hb
  dsimp only [TL.hdr]
  refine Spec.intro Tryz.func71 rfl Tryz.ntmps71 rfl ?_
  refine s7 ?_
  refine L_lenS rfl rfl el57.h ?_
  refine L_make (τ := T_Lead) (((0 : Int), (0 : Int)), (0 : Int), (0 : Int), (0 : Int), (TL.nil T_Id 0), (TL.nil Int 0), false) rfl rfl rfl el44.h rfl rfl (flat_pair (flat_pair (flat_int trivial) (flat_int trivial)) (flat_pair (flat_int trivial) (flat_pair (flat_int trivial) (flat_pair (flat_int trivial) (flat_pair (flat_nil 0) (flat_pair (flat_nil 0) (flat_bool _))))))) (by omega) (by unfold maxLen; omega) (fun g => ?_)
  refine s8 ?_
  refine W_loopC (σ := Nat × List T_Lead) (0, List.replicate x1.length (((0 : Int), (0 : Int)), (0 : Int), (0 : Int), (0 : Int), (TL.nil T_Id 0), (TL.nil Int 0), false)) (fun (p : Nat × List T_Lead) => [(4, .int .i64 (p.1 : Int))]) (fun (p : Nat × List T_Lead) => [treeH (⟨some ⟨g, 0, none⟩, x1.length, 101, p.2, []⟩ : TL T_Lead)]) (fun (p : Nat × List T_Lead) => p.1 ≤ x1.length ∧ p.2.length = x1.length ∧ (p.2.take p.1).map GT.dat = (x1.take p.1).map GT.dat) (fun (p : Nat × List T_Lead) => x1.length - p.1) [(0, _), (3, _)] [] ?_ sb ms ?_
  · exact ⟨Nat.zero_le _, by simp, by simp⟩
  · rintro ⟨k, cur⟩ ⟨hk, hlen, hdat⟩
    dsimp only at hk hlen hdat
    refine kq [0, 3, 4] ?_
    refine s5 ?_
    refine L_lenS rfl rfl el57.h ?_
    refine s2 ?_
    refine kp [0, 3, 4, 11] ?_
    refine W_cond rfl (fun hc3 => ?_) (fun hc3 => ?_)
    · have hk1 : k < x1.length := by simpa using hc3
      obtain ⟨g1, o1, rfl⟩ := rd_addr h1 hk1
      obtain ⟨u1, hu1⟩ := getEl hk1
      have hub : Bk.bulk u1 ≤ 1048576 := by have := bulk_mem (List.mem_of_getElem? hu1); omega
      refine s8 ?_
      refine L_indexAddr rfl rfl rfl el57.h rfl (by omega) ?_
      refine L_loadW rfl rfl (by first | exact RdC.blk mm | exact RdC.old (Cells.el h1 rfl hu1)) (by exact agg131.h) ?_
      refine L_callR rfl fn116.h rfl (by exact fun w hw => toLead_spec w _ (rd_carry (h1.2.2.1 _ (List.mem_of_getElem? hu1)) hw) hub) ?_
      rintro v M1 ⟨u2, hv, hd, rfl⟩
      subst hv
      simp only [List.cons_append, List.nil_append]
      refine L_indexAddr rfl rfl rfl el44.h rfl (by omega) ?_
      obtain ⟨u0, hu0⟩ := getEl (show k < cur.length by omega)
      refine L_storeEl u2 rfl rfl pk rfl hu0 rfl pk (.inl agg101.h) ?_
      refine s3 ?_
      refine L_binV rfl rfl rfl (bv_addR (by unfold inR; omega)) ?_
      refine s2 ?_
      refine ⟨(k + 1, cur.set k u2), sb, ms, ?_, ?_⟩
      · exact ⟨by dsimp only; omega, by simpa using hlen, map_take_set GT.dat GT.dat hdat (by omega) hu1 hd⟩
      · dsimp only; omega
    · refine W_exit ?_
      refine s6 ?_
      -- return 1 (R6)
      refine res1 rfl (ResOK.tmp rfl) ⟨⟨some ⟨g, 0, none⟩, x1.length, 101, cur, []⟩, ?_, ?_, rfl⟩ ms
      · show _ = Value.slice _ cur.length _
        rw [hlen]
      · have hk2 : x1.length ≤ k := by simpa using hc3
        rw [List.take_of_length_le (by omega), List.take_of_length_le (by omega)] at hdat
        exact hdat
end Go.Proofs.SL
