import Derived.Test.YtfcbkchggigoeaaT3
import Derived.Test.YtfcbkchggigoeaaBaseC
namespace Go.Proofs.SL
open Go

def sOk (m lo hi : Int) (xs : List (Int × Int × Int × List ByteArray)) (i : Nat) (s : Int × Int × Int × List ByteArray) : Prop :=
  (1 ≤ s.1 ∧ s.1 ≤ m) ∧ (∀ r, 0 < i → xs[i - 1]? = some r → r.1 < s.1) ∧ (1 ≤ s.2.1 ∧ s.2.1 ≤ 9) ∧ (lo ≤ s.2.2.1 ∧ s.2.2.1 ≤ hi) ∧ s.2.2.2.length ≤ 6 ∧ ∀ p, p ∈ s.2.2.2 → 1 ≤ p.size ∧ p.size ≤ 10
def okD (d : Int × Int × List (Int × Int × Int × List ByteArray)) : Prop :=
  (0 ≤ d.1 ∧ d.1 ≤ 100000) ∧ (1 ≤ d.2.1 ∧ d.2.1 ≤ 1000) ∧ d.2.2.length ≤ 4 ∧ ∀ i s, d.2.2[i]? = some s → sOk (d.2.1 - 1) (d.1 + 1) (d.1 + 100) d.2.2 i s

theorem fn45 : IsFn Try.prog 45 := ⟨_, Try.func45, by kernel_rfl, rfl⟩
theorem fn36 : IsFn Try.prog 36 := ⟨_, Try.func36, by kernel_rfl, rfl⟩
theorem fn46 : IsFn Try.prog 46 := ⟨_, Try.func46, by kernel_rfl, rfl⟩
theorem within_spec (w : World) (x lo hi : Int) : Spec Try.prog 45 [.int .i64 x, .int .i64 lo, .int .i64 hi].toArray w [] (IsV (.bool (decide (lo ≤ x ∧ x ≤ hi)))) := by
  refine Spec.intro Try.func45 rfl Try.ntmps45 rfl ?_
  refine W_seq ?_
  refine W_region ?_
  refine L_assign rfl rfl ?_
  refine L_nil ?_
  refine W_seq ?_
  refine W_D0 [6] mix (by kernel_rfl) rfl ?_
  refine D_move GC.none (OpV.t rfl) ?_
  refine D_move GC.none (OpV.t rfl) ?_
  refine D_bin GC.none (OpV.t rfl) (OpV.t rfl) (fun hg => bv_geq) ?_
  refine D_move GC.none (OpV.t rfl) ?_
  refine D_move (GC.some rfl rfl) (OpV.t rfl) ?_
  refine D_move (GC.some rfl rfl) (OpV.t rfl) ?_
  refine D_bin (GC.some rfl rfl) (OpV.s rfl) (OpV.s rfl) (fun hg => bv_leq) ?_
  refine D_and (cy := _) GC.none (OpV.t rfl) (OpV.s rfl) (fun h hb => ⟨h, hb⟩) ?_
  refine D_assign GC.none (OpV.t rfl) ?_
  refine DV_nil ?_
  refine Give_is rfl rfl ?_
  refine Give_drop rfl ?_
  refine Give_drop rfl ?_
  refine Give_drop rfl ?_
  refine Give_drop rfl ?_
  refine Give_drop rfl ?_
  refine Give_drop rfl ?_
  refine Give_drop rfl ?_
  refine Give_drop rfl ?_
  refine Give_nil ?_
  refine W_ret ?_
  -- return 1 (R1)
  refine res1 rfl (ResOK.tmp rfl) ⟨?_, rfl⟩ (MSub.nil _)
  simp [Bool.decide_and]

theorem l1In_spec (w : World) (x lo hi : Int) : Spec Try.prog 36 [.int .i64 x, .int .i64 lo, .int .i64 hi].toArray w [] (IsV (.bool (decide (lo ≤ x ∧ x ≤ hi)))) := by
  refine Spec.intro Try.func36 rfl Try.ntmps36 rfl ?_
  refine W_seq ?_
  refine W_region ?_
  refine L_assign rfl rfl ?_
  refine L_nil ?_
  refine W_seq ?_
  refine W_D0 [6] mix (by kernel_rfl) rfl ?_
  refine D_move GC.none (OpV.t rfl) ?_
  refine D_move GC.none (OpV.t rfl) ?_
  refine D_bin GC.none (OpV.t rfl) (OpV.t rfl) (fun hg => bv_geq) ?_
  refine D_move GC.none (OpV.t rfl) ?_
  refine D_move (GC.some rfl rfl) (OpV.t rfl) ?_
  refine D_move (GC.some rfl rfl) (OpV.t rfl) ?_
  refine D_bin (GC.some rfl rfl) (OpV.s rfl) (OpV.s rfl) (fun hg => bv_leq) ?_
  refine D_and (cy := _) GC.none (OpV.t rfl) (OpV.s rfl) (fun h hb => ⟨h, hb⟩) ?_
  refine D_assign GC.none (OpV.t rfl) ?_
  refine DV_nil ?_
  refine Give_is rfl rfl ?_
  refine Give_drop rfl ?_
  refine Give_drop rfl ?_
  refine Give_drop rfl ?_
  refine Give_drop rfl ?_
  refine Give_drop rfl ?_
  refine Give_drop rfl ?_
  refine Give_drop rfl ?_
  refine Give_drop rfl ?_
  refine Give_nil ?_
  refine W_ret ?_
  -- return 1 (R1)
  refine res1 rfl (ResOK.tmp rfl) ⟨?_, rfl⟩ (MSub.nil _)
  simp [Bool.decide_and]

theorem isClient_spec (w : World) (x : Int) : Spec Try.prog 46 [.int .i64 x].toArray w [] (IsV (.bool (decide (1 ≤ x ∧ x ≤ 9)))) := by
  refine Spec.intro Try.func46 rfl Try.ntmps46 rfl ?_
  refine W_seq ?_
  refine W_region ?_
  refine L_assign rfl rfl ?_
  refine L_nil ?_
  refine W_seq ?_
  refine W_region ?_
  refine L_move rfl rfl ?_
  refine L_callX rfl fn45 rfl (by exact fun w hw => within_spec w _ _ _) ?_
  refine L_assign rfl rfl ?_
  refine L_nil ?_
  refine W_ret ?_
  -- return 1 (R1)
  refine res1 rfl (ResOK.tmp rfl) ⟨?_, rfl⟩ (MSub.nil _)
  rfl

theorem sDesksOk_spec (w : World) (t1 : T_Desks) (h1 : GT.rd w [] t1) : Spec Try.prog 17 [.agg (GT.cells t1).toArray].toArray w [] (IsV (.bool (pB (okD (GT.dat t1))))) := by
  obtain ⟨a1, a2, ⟨a3, c3, e3, x1, y1⟩⟩ := t1
  have hm1 : x1.length ≤ 9223372036854775807 := rd_len h1.2.2
  change Spec _ _ [Value.agg #[.int .i64 a1, .int .i64 a2, TL.hdr ⟨a3, c3, e3, x1, y1⟩]].toArray w [] _
  simp only [dat_pair, dat_int, dat_TL]
  refine Spec.intro Try.func17 rfl Try.ntmps17 rfl ?_
  refine W_seq ?_
  refine W_region ?_
  refine L_box rfl rfl (fun bk1 => ?_)
  refine L_assign rfl rfl ?_
  refine L_nil ?_
  refine W_seq ?_
  refine W_seq ?_
  refine W_D0 [21] mix (by kernel_rfl) rfl ?_
  refine D_fieldAddr GC.none (OpV.t rfl) fld41_0 ?_
  refine D_load GC.none (OpV.t rfl) (fun hg => (by first | exact RdC.blk (by repeat (first | exact List.Mem.head _ | apply List.Mem.tail)) | exact RdC.old (Cells.el h1.2.2 rfl hu) | exact RdC.old (Cells.el h1.2.2 rfl (hup (by simp at hg; omega))) | exact RdC.old (Cells.el hru.2.2.2 rfl hu4))) one3 rfl ?_
  refine D_callX GC.none fn36 (OpVs.cons (OpV.t rfl) (OpVs.cons OpV.c (OpVs.cons OpV.c (OpVs.nil)))) (by exact fun hg w F hF hM => (fun w hw => l1In_spec w _ _ _) w hF) ?_
  refine D_not GC.none (OpV.t rfl) ?_
  refine D_move GC.none (OpV.t rfl) ?_
  refine D_fieldAddr (GC.some rfl rfl) (OpV.t rfl) fld41_1 ?_
  refine D_load (GC.some rfl rfl) (OpV.s rfl) (fun hg => (by first | exact RdC.blk (by repeat (first | exact List.Mem.head _ | apply List.Mem.tail)) | exact RdC.old (Cells.el h1.2.2 rfl hu) | exact RdC.old (Cells.el h1.2.2 rfl (hup (by simp at hg; omega))) | exact RdC.old (Cells.el hru.2.2.2 rfl hu4))) one3 rfl ?_
  refine D_callX (GC.some rfl rfl) fn36 (OpVs.cons (OpV.s rfl) (OpVs.cons OpV.c (OpVs.cons OpV.c (OpVs.nil)))) (by exact fun hg w F hF hM => (fun w hw => l1In_spec w _ _ _) w hF) ?_
  refine D_not (GC.some rfl rfl) (OpV.s rfl) ?_
  refine D_or (cy := _) GC.none (OpV.t rfl) (OpV.s rfl) (fun h hb => ⟨h, hb⟩) ?_
  refine D_move GC.none (OpV.t rfl) ?_
  refine D_fieldAddr (GC.some rfl rfl) (OpV.t rfl) fld41_2 ?_
  refine D_load (GC.some rfl rfl) (OpV.s rfl) (fun hg => (by first | exact RdC.blk (by repeat (first | exact List.Mem.head _ | apply List.Mem.tail)) | exact RdC.old (Cells.el h1.2.2 rfl hu) | exact RdC.old (Cells.el h1.2.2 rfl (hup (by simp at hg; omega))) | exact RdC.old (Cells.el hru.2.2.2 rfl hu4))) one39 rfl ?_
  refine D_lenS (GC.some rfl rfl) (OpV.s rfl) el39 ?_
  refine D_bin (GC.some rfl rfl) (OpV.s rfl) OpV.c (fun hg => bv_gtr) ?_
  refine D_or (cy := _) GC.none (OpV.t rfl) (OpV.s rfl) (fun h hb => ⟨h, hb⟩) ?_
  refine DV_nil ?_
  refine Give_is rfl rfl ?_
  refine Give_drop rfl ?_
  refine Give_drop rfl ?_
  refine Give_drop rfl ?_
  refine Give_drop rfl ?_
  refine Give_drop rfl ?_
  refine Give_drop rfl ?_
  refine Give_drop rfl ?_
  refine Give_drop rfl ?_
  refine Give_drop rfl ?_
  refine Give_drop rfl ?_
  refine Give_drop rfl ?_
  refine Give_drop rfl ?_
  refine Give_drop rfl ?_
  refine Give_drop rfl ?_
  refine Give_drop rfl ?_
  refine Give_nil ?_
  refine W_weaken (l' := [(1, _), (21, _)]) (Sub.cons rfl (Sub.cons rfl (Sub.nil _))) (MSub.refl _) ?_
  refine W_cond rfl (fun hc1 => ?_) (fun hc1 => ?_)
  · skip
    refine W_seq ?_
    refine W_region ?_
    refine L_assign rfl rfl ?_
    refine L_nil ?_
    refine W_ret ?_
    -- return 1 (R2)
    refine res1 rfl (ResOK.tmp rfl) ⟨?_, rfl⟩ (MSub.nil _)
    refine congrArg Value.bool (Eq.symm (pB_false fun e => ?_))
    obtain ⟨e1, e2, e3, _⟩ := e
    simp at hc1
    simp only [List.length_map] at *
    omega
  · skip
    simp [-not_and] at hc1
    obtain ⟨⟨hr1, hr2⟩, hr3⟩ := hc1
    refine W_skip ?_
    refine W_seq ?_
    refine W_seq ?_
    refine W_region ?_
    refine L_assign rfl rfl ?_
    refine L_nil ?_
    refine W_block ?_
    refine W_loopC (σ := Nat) 0 (fun (k : Nat) => [(3, .int .i64 (k : Int))]) (fun (k : Nat) => []) (fun (k : Nat) => k ≤ x1.length ∧ ∀ i s, i < k → (x1.map GT.dat)[i]? = some s → sOk (a2 - 1) (a1 + 1) (a1 + 100) (x1.map GT.dat) i s) (fun (k : Nat) => x1.length - k) [(1, _)] [_] ?_ (Sub.cons rfl (Sub.cons rfl (Sub.nil _))) (MSub.cons (by repeat (first | exact Pick.here _ | apply Pick.there)) (MSub.nil _)) ?_
    · skip
      exact ⟨Nat.zero_le _, fun i s h => absurd h (by omega)⟩
    · skip
      rintro k ⟨hk, ht⟩
      refine W_weaken (l' := [(1, _), (3, _)]) (Sub.cons rfl (Sub.cons rfl (Sub.nil _))) (M' := [_]) (MSub.cons (by repeat (first | exact Pick.here _ | apply Pick.there)) (MSub.nil _)) ?_
      refine W_seq ?_
      refine W_seq ?_
      refine W_region ?_
      refine L_move rfl rfl ?_
      refine L_fieldAddr rfl rfl fld41_2 ?_
      refine L_load rfl rfl (by first | exact RdC.blk (by repeat (first | exact List.Mem.head _ | apply List.Mem.tail)) | exact RdC.old (Cells.el h1.2.2 rfl hu) | exact RdC.old (Cells.el h1.2.2 rfl (hup (by simp at hg; omega))) | exact RdC.old (Cells.el hru.2.2.2 rfl hu4)) one39 rfl ?_
      refine L_lenS rfl rfl el39 ?_
      refine L_binV rfl rfl rfl bv_lss ?_
      refine L_nil ?_
      refine W_weaken (l' := [(1, _), (3, _), (26, _)]) (Sub.cons rfl (Sub.cons rfl (Sub.cons rfl (Sub.nil _)))) (MSub.refl _) ?_
      refine W_cond rfl (fun hc4 => ?_) (fun hc4 => ?_)
      · skip
        have hk1 : k < x1.length := by simpa using hc4
        obtain ⟨g1, o1, rfl⟩ := rd_addr h1.2.2 hk1
        obtain ⟨u, hu⟩ := getEl hk1
        obtain ⟨up, hup⟩ : ∃ up, 0 < k → x1[k - 1]? = some up := by
          rcases Nat.eq_zero_or_pos k with h0 | h0
          · exact ⟨u, fun h => absurd h (by omega)⟩
          · obtain ⟨up, hup⟩ := getEl (show k - 1 < x1.length by omega)
            exact ⟨up, fun _ => hup⟩
        have hud : (x1.map GT.dat)[k]? = some (GT.dat u) := by rw [List.getElem?_map, hu]; rfl
        have hupd : 0 < k → (x1.map GT.dat)[k - 1]? = some (GT.dat up) := fun h => by rw [List.getElem?_map, hup h]; rfl
        have hru : GT.rd w [] u := h1.2.2.2.2.1 _ (List.mem_of_getElem? hu)
        obtain ⟨b1, b2, b3, ⟨b4, c4, e4, x4, y4⟩⟩ := u
        obtain ⟨p1, p2, p3, ⟨p4, q4, r4, z4, v4⟩⟩ := up
        have hm4 : x4.length ≤ 9223372036854775807 := rd_len hru.2.2.2
        simp only [dat_pair, dat_int, dat_TL] at hud hupd
        refine W_skip ?_
        refine W_seq ?_
        refine W_block ?_
        refine W_seq ?_
        refine W_region ?_
        refine L_fieldAddr rfl rfl fld41_2 ?_
        refine L_load rfl rfl (by first | exact RdC.blk (by repeat (first | exact List.Mem.head _ | apply List.Mem.tail)) | exact RdC.old (Cells.el h1.2.2 rfl hu) | exact RdC.old (Cells.el h1.2.2 rfl (hup (by simp at hg; omega))) | exact RdC.old (Cells.el hru.2.2.2 rfl hu4)) one39 rfl ?_
        refine L_move rfl rfl ?_
        refine L_indexAddr rfl rfl rfl el39 rfl (by omega) ?_
        refine L_loadW rfl rfl (by first | exact RdC.blk (by repeat (first | exact List.Mem.head _ | apply List.Mem.tail)) | exact RdC.old (Cells.el h1.2.2 rfl hu) | exact RdC.old (Cells.el h1.2.2 rfl (hup (by simp at hg; omega))) | exact RdC.old (Cells.el hru.2.2.2 rfl hu4)) (by exact agg75) ?_
        refine L_alloc rfl zero75 (fun bk4 => ?_)
        refine L_storeW rfl rfl (by repeat (first | exact Pick.here _ | apply Pick.there)) (by exact agg75) (by rfl) (by first | (simp [Value.oneCell', TL.hdr]; done) | exact fun v hv => GT.one _ v hv) ?_
        refine L_nil ?_
        refine W_seq ?_
        refine W_seq ?_
        refine W_D0 [80] mix (by kernel_rfl) rfl ?_
        refine D_fieldAddr GC.none (OpV.t rfl) fld75_0 ?_
        refine D_load GC.none (OpV.t rfl) (fun hg => (by first | exact RdC.blk (by repeat (first | exact List.Mem.head _ | apply List.Mem.tail)) | exact RdC.old (Cells.el h1.2.2 rfl hu) | exact RdC.old (Cells.el h1.2.2 rfl (hup (by simp at hg; omega))) | exact RdC.old (Cells.el hru.2.2.2 rfl hu4))) one3 rfl ?_
        refine D_fieldAddr GC.none (OpV.t rfl) fld41_1 ?_
        refine D_load GC.none (OpV.t rfl) (fun hg => (by first | exact RdC.blk (by repeat (first | exact List.Mem.head _ | apply List.Mem.tail)) | exact RdC.old (Cells.el h1.2.2 rfl hu) | exact RdC.old (Cells.el h1.2.2 rfl (hup (by simp at hg; omega))) | exact RdC.old (Cells.el hru.2.2.2 rfl hu4))) one3 rfl ?_
        refine D_bin GC.none (OpV.t rfl) OpV.c (fun hg => (bv_subR (by unfold inR; omega))) ?_
        refine D_callX GC.none fn36 (OpVs.cons (OpV.t rfl) (OpVs.cons OpV.c (OpVs.cons (OpV.t rfl) (OpVs.nil)))) (by exact fun hg w F hF hM => (fun w hw => l1In_spec w _ _ _) w hF) ?_
        refine D_not GC.none (OpV.t rfl) ?_
        refine D_move GC.none (OpV.t rfl) ?_
        refine D_move (GC.some rfl rfl) (OpV.t rfl) ?_
        refine D_bin (GC.some rfl rfl) (OpV.s rfl) OpV.c (fun hg => bv_gtr) ?_
        refine D_move (GC.some rfl rfl) (OpV.s rfl) ?_
        refine D_fieldAddr (GC.some rfl rfl) (OpV.t rfl) fld41_2 ?_
        refine D_load (GC.some rfl rfl) (OpV.s rfl) (fun hg => (by first | exact RdC.blk (by repeat (first | exact List.Mem.head _ | apply List.Mem.tail)) | exact RdC.old (Cells.el h1.2.2 rfl hu) | exact RdC.old (Cells.el h1.2.2 rfl (hup (by simp at hg; omega))) | exact RdC.old (Cells.el hru.2.2.2 rfl hu4))) one39 rfl ?_
        refine D_move (GC.some rfl rfl) (OpV.t rfl) ?_
        refine D_bin (GC.some rfl rfl) (OpV.s rfl) OpV.c (fun hg => (bv_subR (by simp at hg; unfold inR; omega))) ?_
        refine D_indexAddr (k - 1) (GC.some rfl rfl) (OpV.s rfl) (OpV.s rfl) el39 (fun hg => ⟨by simp at hg; omega, by show k - 1 < x1.length; simp at hg; omega⟩) ?_
        refine D_fieldAddr (GC.some rfl rfl) (OpV.s rfl) fld75_0 ?_
        refine D_load (GC.some rfl rfl) (OpV.s rfl) (fun hg => (by first | exact RdC.blk (by repeat (first | exact List.Mem.head _ | apply List.Mem.tail)) | exact RdC.old (Cells.el h1.2.2 rfl hu) | exact RdC.old (Cells.el h1.2.2 rfl (hup (by simp at hg; omega))) | exact RdC.old (Cells.el hru.2.2.2 rfl hu4))) one3 rfl ?_
        refine D_fieldAddr (GC.some rfl rfl) (OpV.t rfl) fld75_0 ?_
        refine D_load (GC.some rfl rfl) (OpV.s rfl) (fun hg => (by first | exact RdC.blk (by repeat (first | exact List.Mem.head _ | apply List.Mem.tail)) | exact RdC.old (Cells.el h1.2.2 rfl hu) | exact RdC.old (Cells.el h1.2.2 rfl (hup (by simp at hg; omega))) | exact RdC.old (Cells.el hru.2.2.2 rfl hu4))) one3 rfl ?_
        refine D_bin (GC.some rfl rfl) (OpV.s rfl) (OpV.s rfl) (fun hg => bv_geq) ?_
        refine D_and (cy := _) (GC.some rfl rfl) (OpV.s rfl) (OpV.s rfl) (fun h hb => ⟨h, hb⟩) ?_
        refine D_or (cy := _) GC.none (OpV.t rfl) (OpV.s rfl) (fun h hb => ⟨h, hb⟩) ?_
        refine D_move GC.none (OpV.t rfl) ?_
        refine D_fieldAddr (GC.some rfl rfl) (OpV.t rfl) fld75_1 ?_
        refine D_load (GC.some rfl rfl) (OpV.s rfl) (fun hg => (by first | exact RdC.blk (by repeat (first | exact List.Mem.head _ | apply List.Mem.tail)) | exact RdC.old (Cells.el h1.2.2 rfl hu) | exact RdC.old (Cells.el h1.2.2 rfl (hup (by simp at hg; omega))) | exact RdC.old (Cells.el hru.2.2.2 rfl hu4))) one3 rfl ?_
        refine D_callX (GC.some rfl rfl) fn36 (OpVs.cons (OpV.s rfl) (OpVs.cons OpV.c (OpVs.cons OpV.c (OpVs.nil)))) (by exact fun hg w F hF hM => (fun w hw => l1In_spec w _ _ _) w hF) ?_
        refine D_not (GC.some rfl rfl) (OpV.s rfl) ?_
        refine D_or (cy := _) GC.none (OpV.t rfl) (OpV.s rfl) (fun h hb => ⟨h, hb⟩) ?_
        refine D_move GC.none (OpV.t rfl) ?_
        refine D_fieldAddr (GC.some rfl rfl) (OpV.t rfl) fld75_2 ?_
        refine D_load (GC.some rfl rfl) (OpV.s rfl) (fun hg => (by first | exact RdC.blk (by repeat (first | exact List.Mem.head _ | apply List.Mem.tail)) | exact RdC.old (Cells.el h1.2.2 rfl hu) | exact RdC.old (Cells.el h1.2.2 rfl (hup (by simp at hg; omega))) | exact RdC.old (Cells.el hru.2.2.2 rfl hu4))) one3 rfl ?_
        refine D_fieldAddr (GC.some rfl rfl) (OpV.t rfl) fld41_0 ?_
        refine D_load (GC.some rfl rfl) (OpV.s rfl) (fun hg => (by first | exact RdC.blk (by repeat (first | exact List.Mem.head _ | apply List.Mem.tail)) | exact RdC.old (Cells.el h1.2.2 rfl hu) | exact RdC.old (Cells.el h1.2.2 rfl (hup (by simp at hg; omega))) | exact RdC.old (Cells.el hru.2.2.2 rfl hu4))) one3 rfl ?_
        refine D_bin (GC.some rfl rfl) (OpV.s rfl) OpV.c (fun hg => (bv_addR (by simp at hg; unfold inR; omega))) ?_
        refine D_fieldAddr (GC.some rfl rfl) (OpV.t rfl) fld41_0 ?_
        refine D_load (GC.some rfl rfl) (OpV.s rfl) (fun hg => (by first | exact RdC.blk (by repeat (first | exact List.Mem.head _ | apply List.Mem.tail)) | exact RdC.old (Cells.el h1.2.2 rfl hu) | exact RdC.old (Cells.el h1.2.2 rfl (hup (by simp at hg; omega))) | exact RdC.old (Cells.el hru.2.2.2 rfl hu4))) one3 rfl ?_
        refine D_bin (GC.some rfl rfl) (OpV.s rfl) OpV.c (fun hg => (bv_addR (by simp at hg; unfold inR; omega))) ?_
        refine D_callX (GC.some rfl rfl) fn36 (OpVs.cons (OpV.s rfl) (OpVs.cons (OpV.s rfl) (OpVs.cons (OpV.s rfl) (OpVs.nil)))) (by exact fun hg w F hF hM => (fun w hw => l1In_spec w _ _ _) w hF) ?_
        refine D_not (GC.some rfl rfl) (OpV.s rfl) ?_
        refine D_or (cy := _) GC.none (OpV.t rfl) (OpV.s rfl) (fun h hb => ⟨h, hb⟩) ?_
        refine D_move GC.none (OpV.t rfl) ?_
        refine D_fieldAddr (GC.some rfl rfl) (OpV.t rfl) fld75_3 ?_
        refine D_load (GC.some rfl rfl) (OpV.s rfl) (fun hg => (by first | exact RdC.blk (by repeat (first | exact List.Mem.head _ | apply List.Mem.tail)) | exact RdC.old (Cells.el h1.2.2 rfl hu) | exact RdC.old (Cells.el h1.2.2 rfl (hup (by simp at hg; omega))) | exact RdC.old (Cells.el hru.2.2.2 rfl hu4))) one73 rfl ?_
        refine D_lenS (GC.some rfl rfl) (OpV.s rfl) el73 ?_
        refine D_bin (GC.some rfl rfl) (OpV.s rfl) OpV.c (fun hg => bv_gtr) ?_
        refine D_or (cy := _) GC.none (OpV.t rfl) (OpV.s rfl) (fun h hb => ⟨h, hb⟩) ?_
        refine DV_nil ?_
        refine Give_is rfl rfl ?_
        refine Give_drop rfl ?_
        refine Give_drop rfl ?_
        refine Give_drop rfl ?_
        refine Give_drop rfl ?_
        refine Give_drop rfl ?_
        refine Give_drop rfl ?_
        refine Give_drop rfl ?_
        refine Give_drop rfl ?_
        refine Give_drop rfl ?_
        refine Give_drop rfl ?_
        refine Give_drop rfl ?_
        refine Give_drop rfl ?_
        refine Give_drop rfl ?_
        refine Give_drop rfl ?_
        refine Give_drop rfl ?_
        refine Give_drop rfl ?_
        refine Give_drop rfl ?_
        refine Give_drop rfl ?_
        refine Give_drop rfl ?_
        refine Give_drop rfl ?_
        refine Give_drop rfl ?_
        refine Give_drop rfl ?_
        refine Give_drop rfl ?_
        refine Give_drop rfl ?_
        refine Give_drop rfl ?_
        refine Give_drop rfl ?_
        refine Give_drop rfl ?_
        refine Give_drop rfl ?_
        refine Give_drop rfl ?_
        refine Give_drop rfl ?_
        refine Give_drop rfl ?_
        refine Give_drop rfl ?_
        refine Give_drop rfl ?_
        refine Give_drop rfl ?_
        refine Give_drop rfl ?_
        refine Give_drop rfl ?_
        refine Give_drop rfl ?_
        refine Give_drop rfl ?_
        refine Give_drop rfl ?_
        refine Give_drop rfl ?_
        refine Give_drop rfl ?_
        refine Give_drop rfl ?_
        refine Give_drop rfl ?_
        refine Give_drop rfl ?_
        refine Give_drop rfl ?_
        refine Give_drop rfl ?_
        refine Give_nil ?_
        refine W_weaken (l' := [(1, _), (3, _), (4, _), (80, _)]) (Sub.cons rfl (Sub.cons rfl (Sub.cons rfl (Sub.cons rfl (Sub.nil _))))) (MSub.refl _) ?_
        refine W_cond rfl (fun hc7 => ?_) (fun hc7 => ?_)
        · skip
          refine W_seq ?_
          refine W_region ?_
          refine L_assign rfl rfl ?_
          refine L_nil ?_
          refine W_ret ?_
          -- return 2 (R8)
          refine res1 rfl (ResOK.tmp rfl) ⟨?_, rfl⟩ (MSub.nil _)
          refine congrArg Value.bool (Eq.symm (pB_false fun e => ?_))
          have e1 := e.2.2.2 k _ hud
          unfold sOk at e1
          obtain ⟨e2, e3, e4, e5, e6, e7⟩ := e1
          have e8 := fun h : 0 < k => e3 _ h (hupd h)
          simp only [List.length_map] at *
          simp at hc7
          rcases Nat.eq_zero_or_pos k with h0 | h0
          · subst h0; omega
          · have e9 := e8 h0
            omega
        · skip
          simp [-not_and] at hc7
          refine W_skip ?_
          refine W_seq ?_
          refine W_region ?_
          refine L_assign rfl rfl ?_
          refine L_nil ?_
          refine W_block ?_
          refine W_loopC (σ := Nat) 0 (fun (j : Nat) => [(5, .int .i64 (j : Int))]) (fun (j : Nat) => []) (fun (j : Nat) => j ≤ x4.length ∧ ∀ p, p ∈ x4.take j → 1 ≤ p.size ∧ p.size ≤ 10) (fun (j : Nat) => x4.length - j) [(1, _), (3, _), (4, _)] [_, _] ?_ (Sub.cons rfl (Sub.cons rfl (Sub.cons rfl (Sub.cons rfl (Sub.nil _))))) (MSub.cons (by repeat (first | exact Pick.here _ | apply Pick.there)) (MSub.cons (by repeat (first | exact Pick.here _ | apply Pick.there)) (MSub.nil _))) ?_
          · skip
            exact ⟨Nat.zero_le _, by simp⟩
          · skip
            rintro j ⟨hj, hs⟩
            refine W_weaken (l' := [(1, _), (3, _), (4, _), (5, _)]) (Sub.cons rfl (Sub.cons rfl (Sub.cons rfl (Sub.cons rfl (Sub.nil _))))) (M' := [_, _]) (MSub.cons (by repeat (first | exact Pick.here _ | apply Pick.there)) (MSub.cons (by repeat (first | exact Pick.here _ | apply Pick.there)) (MSub.nil _))) ?_
            refine W_seq ?_
            refine W_seq ?_
            refine W_region ?_
            refine L_move rfl rfl ?_
            refine L_fieldAddr rfl rfl fld75_3 ?_
            refine L_load rfl rfl (by first | exact RdC.blk (by repeat (first | exact List.Mem.head _ | apply List.Mem.tail)) | exact RdC.old (Cells.el h1.2.2 rfl hu) | exact RdC.old (Cells.el h1.2.2 rfl (hup (by simp at hg; omega))) | exact RdC.old (Cells.el hru.2.2.2 rfl hu4)) one73 rfl ?_
            refine L_lenS rfl rfl el73 ?_
            refine L_binV rfl rfl rfl bv_lss ?_
            refine L_nil ?_
            refine W_weaken (l' := [(1, _), (3, _), (4, _), (5, _), (85, _)]) (Sub.cons rfl (Sub.cons rfl (Sub.cons rfl (Sub.cons rfl (Sub.cons rfl (Sub.nil _)))))) (MSub.refl _) ?_
            refine W_cond rfl (fun hc10 => ?_) (fun hc10 => ?_)
            · skip
              have hk4 : j < x4.length := by simpa using hc10
              obtain ⟨g4, o4, rfl⟩ := rd_addr hru.2.2.2 hk4
              obtain ⟨u4, hu4⟩ := getEl hk4
              refine W_skip ?_
              refine W_seq ?_
              refine W_block ?_
              refine W_seq ?_
              refine W_region ?_
              refine L_fieldAddr rfl rfl fld75_3 ?_
              refine L_load rfl rfl (by first | exact RdC.blk (by repeat (first | exact List.Mem.head _ | apply List.Mem.tail)) | exact RdC.old (Cells.el h1.2.2 rfl hu) | exact RdC.old (Cells.el h1.2.2 rfl (hup (by simp at hg; omega))) | exact RdC.old (Cells.el hru.2.2.2 rfl hu4)) one73 rfl ?_
              refine L_move rfl rfl ?_
              refine L_indexAddr rfl rfl rfl el73 rfl (by omega) ?_
              refine L_load0 rfl rfl (by first | exact RdC.blk (by repeat (first | exact List.Mem.head _ | apply List.Mem.tail)) | exact RdC.old (Cells.el h1.2.2 rfl hu) | exact RdC.old (Cells.el h1.2.2 rfl (hup (by simp at hg; omega))) | exact RdC.old (Cells.el hru.2.2.2 rfl hu4)) one9 rfl ?_
              refine L_lenT rfl rfl str9 ?_
              refine L_callX rfl fn36 rfl (by exact fun w hw => l1In_spec w _ _ _) ?_
              refine L_not rfl rfl ?_
              refine L_nil ?_
              refine W_weaken (l' := [(1, _), (3, _), (4, _), (5, _), (95, _)]) (Sub.cons rfl (Sub.cons rfl (Sub.cons rfl (Sub.cons rfl (Sub.cons rfl (Sub.nil _)))))) (MSub.refl _) ?_
              refine W_cond rfl (fun hc12 => ?_) (fun hc12 => ?_)
              · skip
                refine W_seq ?_
                refine W_region ?_
                refine L_assign rfl rfl ?_
                refine L_nil ?_
                refine W_ret ?_
                -- return 3 (R13)
                refine res1 rfl (ResOK.tmp rfl) ⟨?_, rfl⟩ (MSub.nil _)
                refine congrArg Value.bool (Eq.symm (pB_false fun e => ?_))
                have e1 := e.2.2.2 k _ hud
                unfold sOk at e1
                obtain ⟨e2, e3, e4, e5, e6, e7⟩ := e1
                have e8 := fun h : 0 < k => e3 _ h (hupd h)
                simp only [List.length_map] at *
                have e9 := e7 _ (List.mem_map.2 ⟨u4, List.mem_of_getElem? hu4, rfl⟩)
                simp only [dat_str] at e9
                simp at hc12
                omega
              · skip
                refine W_skip ?_
                refine W_region ?_
                refine L_move rfl rfl ?_
                refine L_binV rfl rfl rfl (bv_addR (by unfold inR; omega)) ?_
                refine L_assign rfl rfl ?_
                refine L_nil ?_
                refine ⟨j + 1, (Sub.cons rfl (Sub.cons rfl (Sub.cons rfl (Sub.cons rfl (Sub.nil _))))), (MSub.cons (by repeat (first | exact Pick.here _ | apply Pick.there)) (MSub.cons (by repeat (first | exact Pick.here _ | apply Pick.there)) (MSub.nil _))), ?_, ?_⟩
                · skip
                  refine ⟨by omega, all_mem_succ hs hu4 ?_⟩
                  simp at hc12; omega
                · skip
                  (try dsimp only); omega
            · skip
              refine W_exit ?_
              refine W_region ?_
              refine L_move rfl rfl ?_
              refine L_binV rfl rfl rfl (bv_addR (by unfold inR; omega)) ?_
              refine L_assign rfl rfl ?_
              refine L_nil ?_
              refine ⟨k + 1, (Sub.cons rfl (Sub.cons rfl (Sub.nil _))), (MSub.cons (by repeat (first | exact Pick.here _ | apply Pick.there)) (MSub.nil _)), ?_, ?_⟩
              · skip
                refine ⟨by omega, all_lt_succ ht hud ?_⟩
                have hk5 : x4.length ≤ j := by simpa using hc10
                rw [List.take_of_length_le hk5] at hs
                obtain ⟨⟨⟨⟨e2, e3⟩, e4⟩, e5⟩, e6⟩ := hc7
                refine ⟨e2, fun r h hr => ?_, e4, e5, by simp only [List.length_map]; omega, fun p hp => ?_⟩
                · rw [hupd h] at hr; cases hr; exact e3 (by omega)
                · obtain ⟨p0, hp0, rfl⟩ := List.mem_map.1 hp
                  exact hs _ hp0
              · skip
                (try dsimp only); omega
      · skip
        refine W_exit ?_
        refine W_seq ?_
        refine W_region ?_
        refine L_assign rfl rfl ?_
        refine L_nil ?_
        refine W_ret ?_
        -- return 4 (R14)
        refine res1 rfl (ResOK.tmp rfl) ⟨?_, rfl⟩ (MSub.nil _)
        refine congrArg Value.bool (Eq.symm (pB_true ?_))
        have hk2 : x1.length ≤ k := by simpa using hc4
        exact ⟨hr1, hr2, by simp only [List.length_map]; omega, fun i s h => ht i s (by have := (List.getElem?_eq_some_iff.1 h).1; simp only [List.length_map] at this; omega) h⟩

theorem iDesksOk_spec (w : World) (t1 : T_Desks) (h1 : GT.rd w [] t1) : Spec Try.prog 19 [.agg (GT.cells t1).toArray].toArray w [] (IsV (.bool (pB (okD (GT.dat t1))))) := by
  obtain ⟨a1, a2, ⟨a3, c3, e3, x1, y1⟩⟩ := t1
  have hm1 : x1.length ≤ 9223372036854775807 := rd_len h1.2.2
  change Spec _ _ [Value.agg #[.int .i64 a1, .int .i64 a2, TL.hdr ⟨a3, c3, e3, x1, y1⟩]].toArray w [] _
  simp only [dat_pair, dat_int, dat_TL]
  have wr : ∀ a b c : Int, (0 ≤ a ∧ a ≤ 100000) → (1 ≤ b ∧ b ≤ 1000) → IntKind.i64.wrap (b - 1) = b - 1 ∧ IntKind.i64.wrap (a + 1) = a + 1 ∧ IntKind.i64.wrap (a + 100) = a + 100 := fun a b c h1 h2 => ⟨wrap64_in (by unfold inR; omega), wrap64_in (by unfold inR; omega), wrap64_in (by unfold inR; omega)⟩
  replace wr := wr a1 a2 0
  refine Spec.intro Try.func19 rfl Try.ntmps19 rfl ?_
  refine W_seq ?_
  refine W_region ?_
  refine L_box rfl rfl (fun bk1 => ?_)
  refine L_assign rfl rfl ?_
  refine L_nil ?_
  refine W_seq ?_
  refine W_seq ?_
  refine W_region ?_
  refine L_fieldAddr rfl rfl fld41_2 ?_
  refine L_load rfl rfl (by first | exact RdC.blk (by repeat (first | exact List.Mem.head _ | apply List.Mem.tail)) | exact RdC.old (Cells.el h1.2.2 rfl hu) | exact RdC.old (Cells.el h1.2.2 rfl (hup (by simp at hg; omega))) | exact RdC.old (Cells.el hru.2.2.2 rfl hu4)) one39 rfl ?_
  refine L_lenS rfl rfl el39 ?_
  refine L_move rfl rfl ?_
  refine L_nil ?_
  refine W_block ?_
  refine W_loopC (σ := Nat) 0 (fun (k : Nat) => [(10, .int .i64 (k : Int))]) (fun (k : Nat) => []) (fun (k : Nat) => k ≤ x1.length ∧ ∀ i s, i < k → (x1.map GT.dat)[i]? = some s → sOk (IntKind.i64.wrap (a2 - 1)) (IntKind.i64.wrap (a1 + 1)) (IntKind.i64.wrap (a1 + 100)) (x1.map GT.dat) i s) (fun (k : Nat) => x1.length - k) [(1, _), (8, _), (9, _)] [_] ?_ (Sub.cons rfl (Sub.cons rfl (Sub.cons rfl (Sub.cons rfl (Sub.nil _))))) (MSub.cons (by repeat (first | exact Pick.here _ | apply Pick.there)) (MSub.nil _)) ?_
  · skip
    exact ⟨Nat.zero_le _, fun i s h => absurd h (by omega)⟩
  · skip
    rintro k ⟨hk, ht⟩
    refine W_weaken (l' := [(1, _), (8, _), (9, _), (10, _)]) (Sub.cons rfl (Sub.cons rfl (Sub.cons rfl (Sub.cons rfl (Sub.nil _))))) (M' := [_]) (MSub.cons (by repeat (first | exact Pick.here _ | apply Pick.there)) (MSub.nil _)) ?_
    refine W_seq ?_
    refine W_region ?_
    refine L_binV rfl rfl rfl bv_lss ?_
    refine L_nil ?_
    refine W_seq ?_
    refine W_weaken (l' := [(1, _), (8, _), (9, _), (10, _), (11, _)]) (Sub.cons rfl (Sub.cons rfl (Sub.cons rfl (Sub.cons rfl (Sub.cons rfl (Sub.nil _)))))) (MSub.refl _) ?_
    refine W_cond rfl (fun hc2 => ?_) (fun hc2 => ?_)
    · skip
      have hk1 : k < x1.length := by simpa using hc2
      obtain ⟨g1, o1, rfl⟩ := rd_addr h1.2.2 hk1
      obtain ⟨u, hu⟩ := getEl hk1
      obtain ⟨up, hup⟩ : ∃ up, 0 < k → x1[k - 1]? = some up := by
        rcases Nat.eq_zero_or_pos k with h0 | h0
        · exact ⟨u, fun h => absurd h (by omega)⟩
        · obtain ⟨up, hup⟩ := getEl (show k - 1 < x1.length by omega)
          exact ⟨up, fun _ => hup⟩
      have hud : (x1.map GT.dat)[k]? = some (GT.dat u) := by rw [List.getElem?_map, hu]; rfl
      have hupd : 0 < k → (x1.map GT.dat)[k - 1]? = some (GT.dat up) := fun h => by rw [List.getElem?_map, hup h]; rfl
      have hru : GT.rd w [] u := h1.2.2.2.2.1 _ (List.mem_of_getElem? hu)
      obtain ⟨b1, b2, b3, ⟨b4, c4, e4, x4, y4⟩⟩ := u
      obtain ⟨p1, p2, p3, ⟨p4, q4, r4, z4, v4⟩⟩ := up
      have hm4 : x4.length ≤ 9223372036854775807 := rd_len hru.2.2.2
      simp only [dat_pair, dat_int, dat_TL] at hud hupd
      refine W_skip ?_
      refine W_seq ?_
      refine W_block ?_
      refine W_seq ?_
      refine W_region ?_
      refine L_move rfl rfl ?_
      refine L_indexAddr rfl rfl rfl el39 rfl (by omega) ?_
      refine L_loadW rfl rfl (by first | exact RdC.blk (by repeat (first | exact List.Mem.head _ | apply List.Mem.tail)) | exact RdC.old (Cells.el h1.2.2 rfl hu) | exact RdC.old (Cells.el h1.2.2 rfl (hup (by simp at hg; omega))) | exact RdC.old (Cells.el hru.2.2.2 rfl hu4)) (by exact agg75) ?_
      refine L_alloc rfl zero75 (fun bk4 => ?_)
      refine L_assign rfl rfl ?_
      refine L_storeW rfl rfl (by repeat (first | exact Pick.here _ | apply Pick.there)) (by exact agg75) (by rfl) (by first | (simp [Value.oneCell', TL.hdr]; done) | exact fun v hv => GT.one _ v hv) ?_
      refine L_nil ?_
      refine W_seq ?_
      refine W_seq ?_
      refine W_D0 [61] mix (by kernel_rfl) rfl ?_
      refine D_fieldAddr GC.none (OpV.t rfl) fld75_0 ?_
      refine D_load GC.none (OpV.t rfl) (fun hg => (by first | exact RdC.blk (by repeat (first | exact List.Mem.head _ | apply List.Mem.tail)) | exact RdC.old (Cells.el h1.2.2 rfl hu) | exact RdC.old (Cells.el h1.2.2 rfl (hup (by simp at hg; omega))) | exact RdC.old (Cells.el hru.2.2.2 rfl hu4))) one3 rfl ?_
      refine D_fieldAddr GC.none (OpV.t rfl) fld41_1 ?_
      refine D_load GC.none (OpV.t rfl) (fun hg => (by first | exact RdC.blk (by repeat (first | exact List.Mem.head _ | apply List.Mem.tail)) | exact RdC.old (Cells.el h1.2.2 rfl hu) | exact RdC.old (Cells.el h1.2.2 rfl (hup (by simp at hg; omega))) | exact RdC.old (Cells.el hru.2.2.2 rfl hu4))) one3 rfl ?_
      refine D_bin GC.none (OpV.t rfl) OpV.c (fun hg => bv_sub) ?_
      refine D_callX GC.none fn45 (OpVs.cons (OpV.t rfl) (OpVs.cons OpV.c (OpVs.cons (OpV.t rfl) (OpVs.nil)))) (by exact fun hg w F hF hM => (fun w hw => within_spec w _ _ _) w hF) ?_
      refine D_not GC.none (OpV.t rfl) ?_
      refine D_move GC.none (OpV.t rfl) ?_
      refine D_move (GC.some rfl rfl) (OpV.t rfl) ?_
      refine D_bin (GC.some rfl rfl) (OpV.s rfl) OpV.c (fun hg => bv_gtr) ?_
      refine D_move (GC.some rfl rfl) (OpV.s rfl) ?_
      refine D_fieldAddr (GC.some rfl rfl) (OpV.t rfl) fld41_2 ?_
      refine D_load (GC.some rfl rfl) (OpV.s rfl) (fun hg => (by first | exact RdC.blk (by repeat (first | exact List.Mem.head _ | apply List.Mem.tail)) | exact RdC.old (Cells.el h1.2.2 rfl hu) | exact RdC.old (Cells.el h1.2.2 rfl (hup (by simp at hg; omega))) | exact RdC.old (Cells.el hru.2.2.2 rfl hu4))) one39 rfl ?_
      refine D_move (GC.some rfl rfl) (OpV.t rfl) ?_
      refine D_bin (GC.some rfl rfl) (OpV.s rfl) OpV.c (fun hg => (bv_subR (by simp at hg; unfold inR; omega))) ?_
      refine D_indexAddr (k - 1) (GC.some rfl rfl) (OpV.s rfl) (OpV.s rfl) el39 (fun hg => ⟨by simp at hg; omega, by show k - 1 < x1.length; simp at hg; omega⟩) ?_
      refine D_fieldAddr (GC.some rfl rfl) (OpV.s rfl) fld75_0 ?_
      refine D_load (GC.some rfl rfl) (OpV.s rfl) (fun hg => (by first | exact RdC.blk (by repeat (first | exact List.Mem.head _ | apply List.Mem.tail)) | exact RdC.old (Cells.el h1.2.2 rfl hu) | exact RdC.old (Cells.el h1.2.2 rfl (hup (by simp at hg; omega))) | exact RdC.old (Cells.el hru.2.2.2 rfl hu4))) one3 rfl ?_
      refine D_fieldAddr (GC.some rfl rfl) (OpV.t rfl) fld75_0 ?_
      refine D_load (GC.some rfl rfl) (OpV.s rfl) (fun hg => (by first | exact RdC.blk (by repeat (first | exact List.Mem.head _ | apply List.Mem.tail)) | exact RdC.old (Cells.el h1.2.2 rfl hu) | exact RdC.old (Cells.el h1.2.2 rfl (hup (by simp at hg; omega))) | exact RdC.old (Cells.el hru.2.2.2 rfl hu4))) one3 rfl ?_
      refine D_bin (GC.some rfl rfl) (OpV.s rfl) (OpV.s rfl) (fun hg => bv_geq) ?_
      refine D_and (cy := _) (GC.some rfl rfl) (OpV.s rfl) (OpV.s rfl) (fun h hb => ⟨h, hb⟩) ?_
      refine D_or (cy := _) GC.none (OpV.t rfl) (OpV.s rfl) (fun h hb => ⟨h, hb⟩) ?_
      refine D_move GC.none (OpV.t rfl) ?_
      refine D_fieldAddr (GC.some rfl rfl) (OpV.t rfl) fld75_1 ?_
      refine D_load (GC.some rfl rfl) (OpV.s rfl) (fun hg => (by first | exact RdC.blk (by repeat (first | exact List.Mem.head _ | apply List.Mem.tail)) | exact RdC.old (Cells.el h1.2.2 rfl hu) | exact RdC.old (Cells.el h1.2.2 rfl (hup (by simp at hg; omega))) | exact RdC.old (Cells.el hru.2.2.2 rfl hu4))) one3 rfl ?_
      refine D_callX (GC.some rfl rfl) fn46 (OpVs.cons (OpV.s rfl) (OpVs.nil)) (by exact fun hg w F hF hM => (fun w hw => isClient_spec w _) w hF) ?_
      refine D_not (GC.some rfl rfl) (OpV.s rfl) ?_
      refine D_or (cy := _) GC.none (OpV.t rfl) (OpV.s rfl) (fun h hb => ⟨h, hb⟩) ?_
      refine D_move GC.none (OpV.t rfl) ?_
      refine D_fieldAddr (GC.some rfl rfl) (OpV.t rfl) fld75_2 ?_
      refine D_load (GC.some rfl rfl) (OpV.s rfl) (fun hg => (by first | exact RdC.blk (by repeat (first | exact List.Mem.head _ | apply List.Mem.tail)) | exact RdC.old (Cells.el h1.2.2 rfl hu) | exact RdC.old (Cells.el h1.2.2 rfl (hup (by simp at hg; omega))) | exact RdC.old (Cells.el hru.2.2.2 rfl hu4))) one3 rfl ?_
      refine D_fieldAddr (GC.some rfl rfl) (OpV.t rfl) fld41_0 ?_
      refine D_load (GC.some rfl rfl) (OpV.s rfl) (fun hg => (by first | exact RdC.blk (by repeat (first | exact List.Mem.head _ | apply List.Mem.tail)) | exact RdC.old (Cells.el h1.2.2 rfl hu) | exact RdC.old (Cells.el h1.2.2 rfl (hup (by simp at hg; omega))) | exact RdC.old (Cells.el hru.2.2.2 rfl hu4))) one3 rfl ?_
      refine D_bin (GC.some rfl rfl) (OpV.s rfl) OpV.c (fun hg => bv_add) ?_
      refine D_fieldAddr (GC.some rfl rfl) (OpV.t rfl) fld41_0 ?_
      refine D_load (GC.some rfl rfl) (OpV.s rfl) (fun hg => (by first | exact RdC.blk (by repeat (first | exact List.Mem.head _ | apply List.Mem.tail)) | exact RdC.old (Cells.el h1.2.2 rfl hu) | exact RdC.old (Cells.el h1.2.2 rfl (hup (by simp at hg; omega))) | exact RdC.old (Cells.el hru.2.2.2 rfl hu4))) one3 rfl ?_
      refine D_bin (GC.some rfl rfl) (OpV.s rfl) OpV.c (fun hg => bv_add) ?_
      refine D_callX (GC.some rfl rfl) fn45 (OpVs.cons (OpV.s rfl) (OpVs.cons (OpV.s rfl) (OpVs.cons (OpV.s rfl) (OpVs.nil)))) (by exact fun hg w F hF hM => (fun w hw => within_spec w _ _ _) w hF) ?_
      refine D_not (GC.some rfl rfl) (OpV.s rfl) ?_
      refine D_or (cy := _) GC.none (OpV.t rfl) (OpV.s rfl) (fun h hb => ⟨h, hb⟩) ?_
      refine D_move GC.none (OpV.t rfl) ?_
      refine D_fieldAddr (GC.some rfl rfl) (OpV.t rfl) fld75_3 ?_
      refine D_load (GC.some rfl rfl) (OpV.s rfl) (fun hg => (by first | exact RdC.blk (by repeat (first | exact List.Mem.head _ | apply List.Mem.tail)) | exact RdC.old (Cells.el h1.2.2 rfl hu) | exact RdC.old (Cells.el h1.2.2 rfl (hup (by simp at hg; omega))) | exact RdC.old (Cells.el hru.2.2.2 rfl hu4))) one73 rfl ?_
      refine D_lenS (GC.some rfl rfl) (OpV.s rfl) el73 ?_
      refine D_bin (GC.some rfl rfl) (OpV.s rfl) OpV.c (fun hg => bv_gtr) ?_
      refine D_or (cy := _) GC.none (OpV.t rfl) (OpV.s rfl) (fun h hb => ⟨h, hb⟩) ?_
      refine DV_nil ?_
      refine Give_is rfl rfl ?_
      refine Give_drop rfl ?_
      refine Give_drop rfl ?_
      refine Give_drop rfl ?_
      refine Give_drop rfl ?_
      refine Give_drop rfl ?_
      refine Give_drop rfl ?_
      refine Give_drop rfl ?_
      refine Give_drop rfl ?_
      refine Give_drop rfl ?_
      refine Give_drop rfl ?_
      refine Give_drop rfl ?_
      refine Give_drop rfl ?_
      refine Give_drop rfl ?_
      refine Give_drop rfl ?_
      refine Give_drop rfl ?_
      refine Give_drop rfl ?_
      refine Give_drop rfl ?_
      refine Give_drop rfl ?_
      refine Give_drop rfl ?_
      refine Give_drop rfl ?_
      refine Give_drop rfl ?_
      refine Give_drop rfl ?_
      refine Give_drop rfl ?_
      refine Give_drop rfl ?_
      refine Give_drop rfl ?_
      refine Give_drop rfl ?_
      refine Give_drop rfl ?_
      refine Give_drop rfl ?_
      refine Give_drop rfl ?_
      refine Give_drop rfl ?_
      refine Give_drop rfl ?_
      refine Give_drop rfl ?_
      refine Give_drop rfl ?_
      refine Give_drop rfl ?_
      refine Give_drop rfl ?_
      refine Give_drop rfl ?_
      refine Give_drop rfl ?_
      refine Give_drop rfl ?_
      refine Give_drop rfl ?_
      refine Give_drop rfl ?_
      refine Give_drop rfl ?_
      refine Give_drop rfl ?_
      refine Give_drop rfl ?_
      refine Give_drop rfl ?_
      refine Give_drop rfl ?_
      refine Give_drop rfl ?_
      refine Give_nil ?_
      refine W_weaken (l' := [(1, _), (4, _), (8, _), (9, _), (10, _), (61, _)]) (Sub.cons rfl (Sub.cons rfl (Sub.cons rfl (Sub.cons rfl (Sub.cons rfl (Sub.cons rfl (Sub.nil _))))))) (MSub.refl _) ?_
      refine W_cond rfl (fun hc4 => ?_) (fun hc4 => ?_)
      · skip
        refine W_seq ?_
        refine W_region ?_
        refine L_assign rfl rfl ?_
        refine L_nil ?_
        refine W_ret ?_
        -- return 1 (R5)
        refine res1 rfl (ResOK.tmp rfl) ⟨?_, rfl⟩ (MSub.nil _)
        refine congrArg Value.bool (Eq.symm (pB_false fun e => ?_))
        have e1 := e.2.2.2 k _ hud
        unfold sOk at e1
        obtain ⟨e2, e3, e4, e5, e6, e7⟩ := e1
        have e8 := fun h : 0 < k => e3 _ h (hupd h)
        simp only [List.length_map] at *
        have hw2 := wr e.1 e.2.1
        rw [hw2.1, hw2.2.1, hw2.2.2] at hc4
        simp at hc4
        rcases Nat.eq_zero_or_pos k with h0 | h0
        · subst h0; omega
        · have e9 := e8 h0
          omega
      · skip
        simp [-not_and] at hc4
        refine W_skip ?_
        refine W_seq ?_
        refine W_region ?_
        refine L_fieldAddr rfl rfl fld75_3 ?_
        refine L_load rfl rfl (by first | exact RdC.blk (by repeat (first | exact List.Mem.head _ | apply List.Mem.tail)) | exact RdC.old (Cells.el h1.2.2 rfl hu) | exact RdC.old (Cells.el h1.2.2 rfl (hup (by simp at hg; omega))) | exact RdC.old (Cells.el hru.2.2.2 rfl hu4)) one73 rfl ?_
        refine L_lenS rfl rfl el73 ?_
        refine L_move rfl rfl ?_
        refine L_nil ?_
        refine W_block ?_
        refine W_loopC (σ := Nat) 0 (fun (j : Nat) => [(65, .int .i64 (j : Int))]) (fun (j : Nat) => []) (fun (j : Nat) => j ≤ x4.length ∧ ∀ p, p ∈ x4.take j → 1 ≤ p.size ∧ p.size ≤ 10) (fun (j : Nat) => x4.length - j) [(1, _), (8, _), (9, _), (10, _), (63, _), (64, _)] [_, _] ?_ (Sub.cons rfl (Sub.cons rfl (Sub.cons rfl (Sub.cons rfl (Sub.cons rfl (Sub.cons rfl (Sub.cons rfl (Sub.nil _)))))))) (MSub.cons (by repeat (first | exact Pick.here _ | apply Pick.there)) (MSub.cons (by repeat (first | exact Pick.here _ | apply Pick.there)) (MSub.nil _))) ?_
        · skip
          exact ⟨Nat.zero_le _, by simp⟩
        · skip
          rintro j ⟨hj, hs⟩
          refine W_weaken (l' := [(1, _), (8, _), (9, _), (10, _), (63, _), (64, _), (65, _)]) (Sub.cons rfl (Sub.cons rfl (Sub.cons rfl (Sub.cons rfl (Sub.cons rfl (Sub.cons rfl (Sub.cons rfl (Sub.nil _)))))))) (M' := [_, _]) (MSub.cons (by repeat (first | exact Pick.here _ | apply Pick.there)) (MSub.cons (by repeat (first | exact Pick.here _ | apply Pick.there)) (MSub.nil _))) ?_
          refine W_seq ?_
          refine W_region ?_
          refine L_binV rfl rfl rfl bv_lss ?_
          refine L_nil ?_
          refine W_seq ?_
          refine W_weaken (l' := [(1, _), (8, _), (9, _), (10, _), (63, _), (64, _), (65, _), (66, _)]) (Sub.cons rfl (Sub.cons rfl (Sub.cons rfl (Sub.cons rfl (Sub.cons rfl (Sub.cons rfl (Sub.cons rfl (Sub.cons rfl (Sub.nil _))))))))) (MSub.refl _) ?_
          refine W_cond rfl (fun hc7 => ?_) (fun hc7 => ?_)
          · skip
            have hk4 : j < x4.length := by simpa using hc7
            obtain ⟨g4, o4, rfl⟩ := rd_addr hru.2.2.2 hk4
            obtain ⟨u4, hu4⟩ := getEl hk4
            refine W_skip ?_
            refine W_seq ?_
            refine W_block ?_
            refine W_seq ?_
            refine W_region ?_
            refine L_indexAddr rfl rfl rfl el73 rfl (by omega) ?_
            refine L_load0 rfl rfl (by first | exact RdC.blk (by repeat (first | exact List.Mem.head _ | apply List.Mem.tail)) | exact RdC.old (Cells.el h1.2.2 rfl hu) | exact RdC.old (Cells.el h1.2.2 rfl (hup (by simp at hg; omega))) | exact RdC.old (Cells.el hru.2.2.2 rfl hu4)) one9 rfl ?_
            refine L_assign rfl rfl ?_
            refine L_nil ?_
            refine W_seq ?_
            refine W_region ?_
            refine L_move rfl rfl ?_
            refine L_lenT rfl rfl str9 ?_
            refine L_callX rfl fn45 rfl (by exact fun w hw => within_spec w _ _ _) ?_
            refine L_not rfl rfl ?_
            refine L_nil ?_
            refine W_weaken (l' := [(1, _), (8, _), (9, _), (10, _), (63, _), (64, _), (65, _), (72, _)]) (Sub.cons rfl (Sub.cons rfl (Sub.cons rfl (Sub.cons rfl (Sub.cons rfl (Sub.cons rfl (Sub.cons rfl (Sub.cons rfl (Sub.nil _))))))))) (MSub.refl _) ?_
            refine W_cond rfl (fun hc9 => ?_) (fun hc9 => ?_)
            · skip
              refine W_seq ?_
              refine W_region ?_
              refine L_assign rfl rfl ?_
              refine L_nil ?_
              refine W_ret ?_
              -- return 2 (R10)
              refine res1 rfl (ResOK.tmp rfl) ⟨?_, rfl⟩ (MSub.nil _)
              refine congrArg Value.bool (Eq.symm (pB_false fun e => ?_))
              have e1 := e.2.2.2 k _ hud
              unfold sOk at e1
              obtain ⟨e2, e3, e4, e5, e6, e7⟩ := e1
              have e8 := fun h : 0 < k => e3 _ h (hupd h)
              simp only [List.length_map] at *
              have e9 := e7 _ (List.mem_map.2 ⟨u4, List.mem_of_getElem? hu4, rfl⟩)
              simp only [dat_str] at e9
              simp at hc9
              omega
            · skip
              refine W_skip ?_
              refine W_region ?_
              refine L_binV rfl rfl rfl (bv_addR (by unfold inR; omega)) ?_
              refine L_move rfl rfl ?_
              refine L_nil ?_
              refine ⟨j + 1, (Sub.cons rfl (Sub.cons rfl (Sub.cons rfl (Sub.cons rfl (Sub.cons rfl (Sub.cons rfl (Sub.cons rfl (Sub.nil _)))))))), (MSub.cons (by repeat (first | exact Pick.here _ | apply Pick.there)) (MSub.cons (by repeat (first | exact Pick.here _ | apply Pick.there)) (MSub.nil _))), ?_, ?_⟩
              · skip
                refine ⟨by omega, all_mem_succ hs hu4 ?_⟩
                simp at hc9; omega
              · skip
                (try dsimp only); omega
          · skip
            refine W_exit ?_
            refine W_region ?_
            refine L_binV rfl rfl rfl (bv_addR (by unfold inR; omega)) ?_
            refine L_move rfl rfl ?_
            refine L_nil ?_
            refine ⟨k + 1, (Sub.cons rfl (Sub.cons rfl (Sub.cons rfl (Sub.cons rfl (Sub.nil _))))), (MSub.cons (by repeat (first | exact Pick.here _ | apply Pick.there)) (MSub.nil _)), ?_, ?_⟩
            · skip
              refine ⟨by omega, all_lt_succ ht hud ?_⟩
              have hk5 : x4.length ≤ j := by simpa using hc7
              rw [List.take_of_length_le hk5] at hs
              obtain ⟨⟨⟨⟨e2, e3⟩, e4⟩, e5⟩, e6⟩ := hc4
              refine ⟨e2, fun r h hr => ?_, e4, e5, by simp only [List.length_map]; omega, fun p hp => ?_⟩
              · rw [hupd h] at hr; cases hr; exact e3 (by omega)
              · obtain ⟨p0, hp0, rfl⟩ := List.mem_map.1 hp
                exact hs _ hp0
            · skip
              (try dsimp only); omega
    · skip
      refine W_exit ?_
      refine W_seq ?_
      refine W_D0 [2] mix (by kernel_rfl) rfl ?_
      refine D_fieldAddr GC.none (OpV.t rfl) fld41_0 ?_
      refine D_load GC.none (OpV.t rfl) (fun hg => (by first | exact RdC.blk (by repeat (first | exact List.Mem.head _ | apply List.Mem.tail)) | exact RdC.old (Cells.el h1.2.2 rfl hu) | exact RdC.old (Cells.el h1.2.2 rfl (hup (by simp at hg; omega))) | exact RdC.old (Cells.el hru.2.2.2 rfl hu4))) one3 rfl ?_
      refine D_callX GC.none fn45 (OpVs.cons (OpV.t rfl) (OpVs.cons OpV.c (OpVs.cons OpV.c (OpVs.nil)))) (by exact fun hg w F hF hM => (fun w hw => within_spec w _ _ _) w hF) ?_
      refine D_move GC.none (OpV.t rfl) ?_
      refine D_fieldAddr (GC.some rfl rfl) (OpV.t rfl) fld41_1 ?_
      refine D_load (GC.some rfl rfl) (OpV.s rfl) (fun hg => (by first | exact RdC.blk (by repeat (first | exact List.Mem.head _ | apply List.Mem.tail)) | exact RdC.old (Cells.el h1.2.2 rfl hu) | exact RdC.old (Cells.el h1.2.2 rfl (hup (by simp at hg; omega))) | exact RdC.old (Cells.el hru.2.2.2 rfl hu4))) one3 rfl ?_
      refine D_callX (GC.some rfl rfl) fn45 (OpVs.cons (OpV.s rfl) (OpVs.cons OpV.c (OpVs.cons OpV.c (OpVs.nil)))) (by exact fun hg w F hF hM => (fun w hw => within_spec w _ _ _) w hF) ?_
      refine D_and (cy := _) GC.none (OpV.t rfl) (OpV.s rfl) (fun h hb => ⟨h, hb⟩) ?_
      refine D_move GC.none (OpV.t rfl) ?_
      refine D_fieldAddr (GC.some rfl rfl) (OpV.t rfl) fld41_2 ?_
      refine D_load (GC.some rfl rfl) (OpV.s rfl) (fun hg => (by first | exact RdC.blk (by repeat (first | exact List.Mem.head _ | apply List.Mem.tail)) | exact RdC.old (Cells.el h1.2.2 rfl hu) | exact RdC.old (Cells.el h1.2.2 rfl (hup (by simp at hg; omega))) | exact RdC.old (Cells.el hru.2.2.2 rfl hu4))) one39 rfl ?_
      refine D_lenS (GC.some rfl rfl) (OpV.s rfl) el39 ?_
      refine D_bin (GC.some rfl rfl) (OpV.s rfl) OpV.c (fun hg => bv_leq) ?_
      refine D_and (cy := _) GC.none (OpV.t rfl) (OpV.s rfl) (fun h hb => ⟨h, hb⟩) ?_
      refine D_assign GC.none (OpV.t rfl) ?_
      refine DV_nil ?_
      refine Give_is rfl rfl ?_
      refine Give_drop rfl ?_
      refine Give_drop rfl ?_
      refine Give_drop rfl ?_
      refine Give_drop rfl ?_
      refine Give_drop rfl ?_
      refine Give_drop rfl ?_
      refine Give_drop rfl ?_
      refine Give_drop rfl ?_
      refine Give_drop rfl ?_
      refine Give_drop rfl ?_
      refine Give_drop rfl ?_
      refine Give_drop rfl ?_
      refine Give_drop rfl ?_
      refine Give_drop rfl ?_
      refine Give_nil ?_
      refine W_ret ?_
      -- return 3 (R13)
      refine res1 rfl (ResOK.tmp rfl) ⟨?_, rfl⟩ (MSub.nil _)
      refine congrArg Value.bool ?_
      have hk2 : x1.length ≤ k := by simpa using hc2
      by_cases hz : (0 ≤ a1 ∧ a1 ≤ 100000) ∧ (1 ≤ a2 ∧ a2 ≤ 1000) ∧ x1.length ≤ 4
      · rw [pB_true]
        · simp; omega
        · have hw2 := wr hz.1 hz.2.1
          rw [hw2.1, hw2.2.1, hw2.2.2] at ht
          exact ⟨hz.1, hz.2.1, by simp only [List.length_map]; omega, fun i s h => ht i s (by have := (List.getElem?_eq_some_iff.1 h).1; simp only [List.length_map] at this; omega) h⟩
      · rw [pB_false (fun e => hz ⟨e.1, e.2.1, by have := e.2.2.1; simp only [List.length_map] at this; omega⟩)]
        simp; omega

end Go.Proofs.SL
