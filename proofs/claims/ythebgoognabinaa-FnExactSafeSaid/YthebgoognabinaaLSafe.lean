/- The law FnExactSafe. -/
import Derived.Test.YthebgoognabinaaPC2
import Derived.Test.YthebgoognabinaaFC
namespace Go.Proofs.SL
open Go

theorem agg92 : aggOf Try.prog 92 = some 1 := by kernel_rfl
theorem fn61 : IsFn Try.prog 61 := ⟨_, Try.func61, by kernel_rfl, rfl⟩
theorem agg24 : aggOf Try.prog 24 = some 2 := by kernel_rfl
theorem fn14 : IsFn Try.prog 14 := ⟨_, Try.func14, by kernel_rfl, rfl⟩
theorem fn63 : IsFn Try.prog 63 := ⟨_, Try.func63, by kernel_rfl, rfl⟩
theorem fn16 : IsFn Try.prog 16 := ⟨_, Try.func16, by kernel_rfl, rfl⟩
theorem fn62 : IsFn Try.prog 62 := ⟨_, Try.func62, by kernel_rfl, rfl⟩
theorem fn64 : IsFn Try.prog 64 := ⟨_, Try.func64, by kernel_rfl, rfl⟩
theorem und4 : Try.prog.underlying 4 = some (.bool) := by kernel_rfl
theorem fn65 : IsFn Try.prog 65 := ⟨_, Try.func65, by kernel_rfl, rfl⟩
theorem fn18 : IsFn Try.prog 18 := ⟨_, Try.func18, by kernel_rfl, rfl⟩
theorem sSafe_spec (w : World) (a0 : T_Catalog) (a1 : T_Ups) (h0 : GT.rd w [] a0) (h1 : GT.rd w [] a1) (ho0 : Ok.ok (GT.dat a0)) (ho1 : Ok.ok (GT.dat a1))  : Spec Try.prog 62 [.agg (GT.cells a0).toArray, .agg (GT.cells a1).toArray].toArray w [] (IsV (.bool (safeB (GT.dat a0) (GT.dat a1)))) := s_Safe_walk w a0 a1 h0 h1 _ (s_Safe_eq ho0 ho1)
theorem iSafe_spec (w : World) (a0 : T_Catalog) (a1 : T_Ups) (h0 : GT.rd w [] a0) (h1 : GT.rd w [] a1) (ho0 : Ok.ok (GT.dat a0)) (ho1 : Ok.ok (GT.dat a1))  : Spec Try.prog 64 [.agg (GT.cells a0).toArray, .agg (GT.cells a1).toArray].toArray w [] (IsV (.bool (safeB (GT.dat a0) (GT.dat a1)))) := i_Safe_walk w a0 a1 h0 h1 _ (i_Safe_eq ho0 ho1)
theorem lawFnExactSafe (w : World) (t1 : T_Catalog) (t2 : T_Ups) (h1 : GT.rd w [] t1) (h2 : GT.rd w [] t2) (ho1 : Ok.ok (GT.dat t1)) (ho2 : Ok.ok (GT.dat t2)) : Spec Try.prog 10 [.agg (GT.cells t1).toArray, .agg (GT.cells t2).toArray].toArray w [] (IsV (.bool true)) := by
  refine Spec.intro Try.func10 rfl Try.ntmps10 rfl ?_
  refine W_seq ?_
  refine W_region ?_
  refine L_box rfl rfl (fun bk2 => ?_)
  refine L_box rfl rfl (fun bk3 => ?_)
  refine L_assign rfl rfl ?_
  refine L_nil ?_
  refine W_seq ?_
  refine W_region ?_
  refine L_assign rfl rfl ?_
  refine L_nil ?_
  refine W_seq ?_
  refine W_region ?_
  refine L_loadW rfl rfl (by first | exact RdC.blk (by repeat (first | exact List.Mem.head _ | apply List.Mem.tail))) (by exact agg92) ?_
  refine L_move rfl rfl ?_
  refine L_callX rfl fn61 rfl (by exact fun w hw => szCatalog_spec w t1 (1048576) (by omega) (by omega) (rd_carry h1 hw) ho1) ?_
  refine L_assign rfl rfl ?_
  refine L_nil ?_
  refine W_seq ?_
  refine W_seq ?_
  refine W_region ?_
  refine L_move rfl rfl ?_
  refine L_binV rfl rfl rfl bv_lss ?_
  refine L_nil ?_
  refine W_weaken (l' := [(2, _), (3, _), (5, _), (14, _)]) (Sub.cons rfl (Sub.cons rfl (Sub.cons rfl (Sub.cons rfl (Sub.nil _))))) (MSub.refl _) ?_
  refine W_cond rfl (fun hc3 => ?_) (fun hc3 => ?_)
  · skip
    skip
    refine W_seq ?_
    refine W_region ?_
    refine L_assign rfl rfl ?_
    refine L_nil ?_
    refine W_ret ?_
    -- return 1 (R4)
    refine res1 rfl (ResOK.tmp rfl) ⟨?_, rfl⟩ (MSub.nil _)
    first
      | rfl
      | (rename_i hz; simp [*] at hz; done)
      | (simp_all; done)
  · skip
    have hb1 : (Bk.bulk t1 : Int) ≤ 1048576 := by
      rcases Int.decLt (1048576) (Bk.bulk t1 : Int) with hn | hn
      · omega
      · rw [if_neg (by omega)] at hc3; simp at hc3
    rw [if_pos hb1]
    refine W_skip ?_
    refine W_seq ?_
    refine W_region ?_
    refine L_loadW rfl rfl (by first | exact RdC.blk (by repeat (first | exact List.Mem.head _ | apply List.Mem.tail))) (by exact agg24) ?_
    refine L_move rfl rfl ?_
    refine L_callX rfl fn14 rfl (by exact fun w hw => szUps_spec w t2 (1048576 - (Bk.bulk t1 : Int)) (by omega) (by omega) (rd_carry h2 hw) ho2) ?_
    refine L_assign rfl rfl ?_
    refine L_nil ?_
    refine W_seq ?_
    refine W_seq ?_
    refine W_region ?_
    refine L_move rfl rfl ?_
    refine L_binV rfl rfl rfl bv_lss ?_
    refine L_nil ?_
    refine W_weaken (l' := [(2, _), (3, _), (19, _)]) (Sub.cons rfl (Sub.cons rfl (Sub.cons rfl (Sub.nil _)))) (MSub.refl _) ?_
    refine W_cond rfl (fun hc6 => ?_) (fun hc6 => ?_)
    · skip
      skip
      refine W_seq ?_
      refine W_region ?_
      refine L_assign rfl rfl ?_
      refine L_nil ?_
      refine W_ret ?_
      -- return 2 (R7)
      refine res1 rfl (ResOK.tmp rfl) ⟨?_, rfl⟩ (MSub.nil _)
      first
        | rfl
        | (rename_i hz; simp [*] at hz; done)
        | (simp_all; done)
    · skip
      have hb2 : (Bk.bulk t2 : Int) ≤ 1048576 - (Bk.bulk t1 : Int) := by
        rcases Int.decLt (1048576 - (Bk.bulk t1 : Int)) (Bk.bulk t2 : Int) with hn | hn
        · omega
        · rw [if_neg (by omega)] at hc6; simp at hc6
      rw [if_pos hb2]
      refine W_skip ?_
      refine W_seq ?_
      refine W_D0 [6] mix (by kernel_rfl) rfl ?_
      refine D_loadW GC.none (OpV.t rfl) (fun hg => (by first | exact RdC.blk (by repeat (first | exact List.Mem.head _ | apply List.Mem.tail)))) (by exact agg92) ?_
      refine D_call1R (fun v M => ∃ m : T_Catalog, v = .agg (GT.cells m).toArray ∧ GT.dat m = GT.dat t1 ∧ M = [treeH m]) fn63 (OpVs.cons (OpV.t rfl) (OpVs.nil)) (by exact fun w F hF hM => (fun w hw => toCatalog_spec w _ (rd_carry h1 hw) (by omega)) w hF) ?_
      refine D_loadW GC.none (OpV.t rfl) (fun hg => (by first | exact RdC.blk (by repeat (first | exact List.Mem.head _ | apply List.Mem.tail)))) (by exact agg24) ?_
      refine D_call1R (fun v M => ∃ m : T_Ups, v = .agg (GT.cells m).toArray ∧ GT.dat m = GT.dat t2 ∧ M = [treeH m]) fn16 (OpVs.cons (OpV.t rfl) (OpVs.nil)) (by exact fun w F hF hM => (fun w hw => toUps_spec w _ (rd_carry h2 hw) (by omega)) w hF) ?_
      refine D_callR [_, _] (FC True (.bool (safeB (GT.dat t1) (GT.dat t2)))) fn62 ⟨⟨_, rfl, fun _ _ h => h⟩, ⟨_, rfl, fun _ _ h => h⟩, trivial⟩ (by
        rintro w F vs hw hM ⟨v0, u0, M0, rfl, ⟨m0, rfl, hm0, rfl⟩, hin0, ⟨v1, u1, M1, rfl, ⟨m1, rfl, hm1, rfl⟩, hin1, rfl⟩⟩
        have h := sSafe_spec w m0 m1 (rd_of_tree (hin0 _ (List.mem_singleton.2 rfl)) hw.sees) (rd_of_tree (hin1 _ (List.mem_singleton.2 rfl)) hw.sees) (by rw [hm0]; exact ho1) (by rw [hm1]; exact ho2)
        rw [hm0, hm1] at h
        exact h.toFC) ?_
      refine D_assign GC.none (OpV.t rfl) ?_
      refine DV_nil ?_
      refine Give_is rfl rfl ?_
      refine Give_drop rfl ?_
      refine Give_drop rfl ?_
      refine Give_drop rfl ?_
      refine Give_drop rfl ?_
      refine Give_drop rfl ?_
      refine Give_nil ?_
      refine W_seq ?_
      refine W_region ?_
      refine L_loadW rfl rfl (by first | exact RdC.blk (by repeat (first | exact List.Mem.head _ | apply List.Mem.tail))) (by exact agg92) ?_
      refine L_callR rfl fn63 rfl (by exact fun w hw => toCatalog_spec w _ (rd_carry h1 hw) (by omega)) ?_
      rintro v M1 ⟨n3, hv, hd3, rfl⟩
      subst hv
      simp only [List.cons_append, List.nil_append]
      refine L_alloc rfl zero97 (fun bk7 => ?_)
      refine L_storeW rfl rfl (by repeat (first | exact Pick.here _ | apply Pick.there)) (by exact agg97) (by rfl) (by first | (simp [Value.oneCell', TL.hdr]; done) | (simp [Value.oneCell', TL.hdr, Value.cells]; done) | exact fun v hv => GT.one _ v hv) ?_
      refine L_nil ?_
      refine W_seq ?_
      refine W_region ?_
      refine L_loadW rfl rfl (by first | exact RdC.blk (by repeat (first | exact List.Mem.head _ | apply List.Mem.tail))) (by exact agg24) ?_
      refine L_callR rfl fn16 rfl (by exact fun w hw => toUps_spec w _ (rd_carry h2 hw) (by omega)) ?_
      rintro v M1 ⟨n4, hv, hd4, rfl⟩
      subst hv
      simp only [List.cons_append, List.nil_append]
      refine L_alloc rfl zero28 (fun bk8 => ?_)
      refine L_storeW rfl rfl (by repeat (first | exact Pick.here _ | apply Pick.there)) (by exact agg28) (by rfl) (by first | (simp [Value.oneCell', TL.hdr]; done) | (simp [Value.oneCell', TL.hdr, Value.cells]; done) | exact fun v hv => GT.one _ v hv) ?_
      refine L_nil ?_
      refine W_seq ?_
      refine W_region ?_
      refine L_loadW rfl rfl (by first | exact RdC.blk (by repeat (first | exact List.Mem.head _ | apply List.Mem.tail))) (by exact agg97) ?_
      refine L_loadW rfl rfl (by first | exact RdC.blk (by repeat (first | exact List.Mem.head _ | apply List.Mem.tail))) (by exact agg28) ?_
      refine L_callX rfl fn64 rfl (by exact fun w hw => iSafe_spec w n3 n4 (rd_of_tree (by repeat (first | exact List.Mem.head _ | apply List.Mem.tail)) hw.sees) (rd_of_tree (by repeat (first | exact List.Mem.head _ | apply List.Mem.tail)) hw.sees) (by rw [hd3]; exact ho1) (by rw [hd4]; exact ho2)) ?_
      refine L_assign rfl rfl ?_
      refine L_nil ?_
      refine W_seq ?_
      refine W_seq ?_
      refine W_region ?_
      refine L_move rfl rfl ?_
      refine L_move rfl rfl ?_
      refine L_binV rfl rfl rfl (bv_bneq und4) ?_
      refine L_nil ?_
      refine W_weaken (l' := [(2, _), (3, _), (7, _), (8, _), (34, _)]) (Sub.cons rfl (Sub.cons rfl (Sub.cons rfl (Sub.cons rfl (Sub.cons rfl (Sub.nil _)))))) (MSub.refl _) ?_
      refine W_cond rfl (fun hc12 => ?_) (fun hc12 => ?_)
      · skip
        refine W_seq ?_
        refine W_region ?_
        refine L_assign rfl rfl ?_
        refine L_nil ?_
        refine W_ret ?_
        -- return 3 (R13)
        refine res1 rfl (ResOK.tmp rfl) ⟨?_, rfl⟩ (MSub.nil _)
        first
          | rfl
          | (rename_i hz; simp [*] at hz; done)
          | (simp_all; done)
      · skip
        refine W_skip ?_
        refine W_seq ?_
        refine W_seq ?_
        refine W_D0 [39] mix (by kernel_rfl) rfl ?_
        refine D_loadW GC.none (OpV.t rfl) (fun hg => (by first | exact RdC.blk (by repeat (first | exact List.Mem.head _ | apply List.Mem.tail)))) (by exact agg97) ?_
        refine D_loadW GC.none (OpV.t rfl) (fun hg => (by first | exact RdC.blk (by repeat (first | exact List.Mem.head _ | apply List.Mem.tail)))) (by exact agg92) ?_
        refine D_call1R (fun v M => ∃ m : T_Catalog, v = .agg (GT.cells m).toArray ∧ GT.dat m = GT.dat t1 ∧ M = [treeH m]) fn63 (OpVs.cons (OpV.t rfl) (OpVs.nil)) (by exact fun w F hF hM => (fun w hw => toCatalog_spec w _ (rd_carry h1 hw) (by omega)) w hF) ?_
        refine D_callR [_, _] (FC True (.bool true)) fn65 ⟨⟨_, rfl, fun _ _ h => h⟩, ⟨_, rfl, fun _ _ h => h⟩, trivial⟩ (by
          rintro w F vs hw hM ⟨v1, u1, M1, rfl, ⟨rfl, hx1, _⟩, _, v2, u2, M2, rfl, ⟨m2, rfl, hd2x, rfl⟩, hin, rfl⟩
          obtain rfl := hx1 trivial
          have h := eqCatalog_spec w n3 m2 (rd_of_tree (hM _ (by repeat (first | exact List.Mem.head _ | apply List.Mem.tail))) hw.sees) (rd_of_tree (hin _ (List.mem_singleton.2 rfl)) hw.sees)
          rw [eqB_true.2 (hd3.trans hd2x.symm)] at h
          exact h.toFC) ?_
        refine D_not GC.none (OpV.t rfl) ?_
        refine DV_nil ?_
        refine Give_is rfl rfl ?_
        refine Give_drop rfl ?_
        refine Give_drop rfl ?_
        refine Give_drop rfl ?_
        refine Give_drop rfl ?_
        refine Give_nil ?_
        refine W_weaken (l' := [(3, _), (8, _), (39, _)]) (Sub.cons rfl (Sub.cons rfl (Sub.cons rfl (Sub.nil _)))) (MSub.refl _) ?_
        refine W_condF rfl ?_
        refine W_skip ?_
        refine W_seq ?_
        refine W_seq ?_
        refine W_D0 [44] mix (by kernel_rfl) rfl ?_
        refine D_loadW GC.none (OpV.t rfl) (fun hg => (by first | exact RdC.blk (by repeat (first | exact List.Mem.head _ | apply List.Mem.tail)))) (by exact agg28) ?_
        refine D_loadW GC.none (OpV.t rfl) (fun hg => (by first | exact RdC.blk (by repeat (first | exact List.Mem.head _ | apply List.Mem.tail)))) (by exact agg24) ?_
        refine D_call1R (fun v M => ∃ m : T_Ups, v = .agg (GT.cells m).toArray ∧ GT.dat m = GT.dat t2 ∧ M = [treeH m]) fn16 (OpVs.cons (OpV.t rfl) (OpVs.nil)) (by exact fun w F hF hM => (fun w hw => toUps_spec w _ (rd_carry h2 hw) (by omega)) w hF) ?_
        refine D_callR [_, _] (FC True (.bool true)) fn18 ⟨⟨_, rfl, fun _ _ h => h⟩, ⟨_, rfl, fun _ _ h => h⟩, trivial⟩ (by
          rintro w F vs hw hM ⟨v1, u1, M1, rfl, ⟨rfl, hx1, _⟩, _, v2, u2, M2, rfl, ⟨m2, rfl, hd2x, rfl⟩, hin, rfl⟩
          obtain rfl := hx1 trivial
          have h := eqUps_spec w n4 m2 (rd_of_tree (hM _ (by repeat (first | exact List.Mem.head _ | apply List.Mem.tail))) hw.sees) (rd_of_tree (hin _ (List.mem_singleton.2 rfl)) hw.sees)
          rw [eqB_true.2 (hd4.trans hd2x.symm)] at h
          exact h.toFC) ?_
        refine D_not GC.none (OpV.t rfl) ?_
        refine DV_nil ?_
        refine Give_is rfl rfl ?_
        refine Give_drop rfl ?_
        refine Give_drop rfl ?_
        refine Give_drop rfl ?_
        refine Give_drop rfl ?_
        refine Give_nil ?_
        refine W_weaken (l' := [(44, _)]) (Sub.cons rfl (Sub.nil _)) (MSub.refl _) ?_
        refine W_condF rfl ?_
        refine W_skip ?_
        refine W_seq ?_
        refine W_region ?_
        refine L_assign rfl rfl ?_
        refine L_nil ?_
        refine W_ret ?_
        -- return 4 (R18)
        refine res1 rfl (ResOK.tmp rfl) ⟨?_, rfl⟩ (MSub.nil _)
        first
          | rfl
          | (rename_i hz; simp [*] at hz; done)
          | (simp_all; done)

end Go.Proofs.SL
