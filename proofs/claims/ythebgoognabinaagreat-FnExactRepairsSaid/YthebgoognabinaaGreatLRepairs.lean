/- The law FnExactRepairs. -/
import Derived.Test.YthebgoognabinaaGreatPRs
import Derived.Test.YthebgoognabinaaGreatFB
import Derived.Test.YthebgoognabinaaGreatFP
namespace Go.Proofs.SL
open Go

theorem allL_eights {c : D_Catalog} : ∀ x, x ∈ allL c → x.size = 8 := by
  intro x hx
  unfold allL at hx
  split at hx
  · rename_i hk
    obtain ⟨_, hc2⟩ := catOk_facts hk
    have := ((foldPut_facts (chunksOf c) [] List.Pairwise.nil).2 x).1 hx
    rcases this with h | h
    · unfold chunksOf at h
      obtain ⟨s, hs, h⟩ := List.mem_flatMap.1 h
      obtain ⟨p, hp, h⟩ := List.mem_flatMap.1 h
      exact ((hc2 s hs).2 p hp).2 x h
    · cases h
  · cases hx
theorem bds_copies : ∀ {l : List D_Copy}, (∀ x, x ∈ l → x.1.size = 8) → bds T_Copy l ≤ 8 * l.length
  | [], _ => by simp [bds]
  | x :: l, h => by
    have h1 := h x (List.mem_cons_self ..)
    have := bds_copies (l := l) fun y hy => h y (List.mem_cons_of_mem _ hy)
    have h5 : Bd.bd (τ := T_Copy) x = x.1.size := by
      show x.1.size + (0 + 0) = _
      omega
    simp only [bds, List.length_cons, h5]
    omega
theorem reps_fold (u : D_Ups) (up : List Bool) : ∀ (l : List ByteArray) (t : List D_Copy), (∀ x, x ∈ l → x.size = 8) → (∀ y, y ∈ t → y.1.size = 8) → (l.foldl (repsO u up) t).length ≤ t.length + 3 * l.length ∧ ∀ y, y ∈ l.foldl (repsO u up) t → y.1.size = 8
  | [], t, _, ht => ⟨by simp, ht⟩
  | x :: l, t, hl, ht => by
    have h1 := repsO_len u up t x
    have h2 : ∀ y, y ∈ repsO u up t x → y.1.size = 8 := by
      intro y hy
      unfold repsO at hy
      split at hy
      · exact ht y hy
      · rcases repsI_mem _ _ _ _ _ _ y hy with h | h
        · exact ht y h
        · rw [h]; exact hl x (List.mem_cons_self ..)
    obtain ⟨h3, h4⟩ := reps_fold u up l (repsO u up t x) (fun z hz => hl z (List.mem_cons_of_mem _ hz)) h2
    simp only [List.foldl_cons, List.length_cons]
    exact ⟨by omega, h4⟩
theorem reps_bd (c : D_Catalog) (u : D_Ups) (up : List Bool) (hc : Ok.ok c) (g : TL T_Copy) (h : GT.dat g = repsL c u up) : Bk.bulk g ≤ 3000 := by
  rw [Bd.eq, h]
  have h0 := allL_len hc
  have h2 : ∀ l : List D_Copy, (∀ x, x ∈ l → x.1.size = 8) → l.length ≤ 300 → Bd.bd (τ := TL T_Copy) l ≤ 3000 := by
    intro l hl hn
    have := bds_copies hl
    show l.length + bds T_Copy l ≤ 3000
    omega
  unfold repsL
  split
  · obtain ⟨h3, h4⟩ := reps_fold u up (allL c) [] allL_eights (fun y hy => by cases hy)
    refine h2 _ h4 ?_
    simp only [List.length_nil] at h3
    omega
  · exact h2 [] (by simp) (by simp)

theorem fn15 : IsFn Tryz.prog 15 := ⟨_, Tryz.func15, by kernel_rfl, rfl⟩
theorem fn16 : IsFn Tryz.prog 16 := ⟨_, Tryz.func16, by kernel_rfl, rfl⟩
theorem fn17 : IsFn Tryz.prog 17 := ⟨_, Tryz.func17, by kernel_rfl, rfl⟩
theorem fn18 : IsFn Tryz.prog 18 := ⟨_, Tryz.func18, by kernel_rfl, rfl⟩
theorem agg24 : aggOf Tryz.prog 24 = some 1 := by kernel_rfl
theorem fn4 : IsFn Tryz.prog 4 := ⟨_, Tryz.func4, by kernel_rfl, rfl⟩
theorem agg27 : aggOf Tryz.prog 27 = some 2 := by kernel_rfl
theorem fn5 : IsFn Tryz.prog 5 := ⟨_, Tryz.func5, by kernel_rfl, rfl⟩
theorem fn7 : IsFn Tryz.prog 7 := ⟨_, Tryz.func7, by kernel_rfl, rfl⟩
theorem fn8 : IsFn Tryz.prog 8 := ⟨_, Tryz.func8, by kernel_rfl, rfl⟩
theorem fn9 : IsFn Tryz.prog 9 := ⟨_, Tryz.func9, by kernel_rfl, rfl⟩
theorem fn6 : IsFn Tryz.prog 6 := ⟨_, Tryz.func6, by kernel_rfl, rfl⟩
theorem fn10 : IsFn Tryz.prog 10 := ⟨_, Tryz.func10, by kernel_rfl, rfl⟩
theorem fn11 : IsFn Tryz.prog 11 := ⟨_, Tryz.func11, by kernel_rfl, rfl⟩
theorem fn12 : IsFn Tryz.prog 12 := ⟨_, Tryz.func12, by kernel_rfl, rfl⟩
theorem fn13 : IsFn Tryz.prog 13 := ⟨_, Tryz.func13, by kernel_rfl, rfl⟩
theorem fn14 : IsFn Tryz.prog 14 := ⟨_, Tryz.func14, by kernel_rfl, rfl⟩
theorem fn19 : IsFn Tryz.prog 19 := ⟨_, Tryz.func19, by kernel_rfl, rfl⟩
theorem sRepairs_spec (w : World) (a0 : T_Catalog) (a1 : T_Ups) (a2 : TL Bool) (h0 : GT.rd w [] a0) (h1 : GT.rd w [] a1) (h2 : GT.rd w [] a2) (ho0 : Ok.ok (GT.dat a0)) (ho1 : Ok.ok (GT.dat a1)) (ho2 : Ok.ok (GT.dat a2))  : Spec Tryz.prog 6 [.agg (GT.cells a0).toArray, .agg (GT.cells a1).toArray, a2.hdr].toArray w [] (fun v M => ∃ (x0 : TL T_Copy), v = x0.hdr ∧ GT.dat x0 = (repsL (GT.dat a0) (GT.dat a1) (GT.dat a2)) ∧ M = [treeH x0]) := (s_Repairs_walk w a0 a1 a2 h0 h1 h2 _ (s_Repairs_eq ho0 ho1 ho2.1)).to fun v M ⟨x0, hv, hd, hM⟩ => by
  exact ⟨x0, hv, congrArg (fun z => z) hd, hM⟩
theorem iRepairs_spec (w : World) (a0 : T_Catalog) (a1 : T_Ups) (a2 : TL Bool) (h0 : GT.rd w [] a0) (h1 : GT.rd w [] a1) (h2 : GT.rd w [] a2) (ho0 : Ok.ok (GT.dat a0)) (ho1 : Ok.ok (GT.dat a1)) (ho2 : Ok.ok (GT.dat a2))  : Spec Tryz.prog 10 [.agg (GT.cells a0).toArray, .agg (GT.cells a1).toArray, a2.hdr].toArray w [] (fun v M => ∃ (x0 : TL T_Copy), v = x0.hdr ∧ GT.dat x0 = (repsL (GT.dat a0) (GT.dat a1) (GT.dat a2)) ∧ M = [treeH x0]) := (i_Repairs_walk w a0 a1 a2 h0 h1 h2 _ (i_Repairs_eq ho0 ho1 ho2.1)).to fun v M ⟨x0, hv, hd, hM⟩ => by
  exact ⟨x0, hv, congrArg (fun z => z) hd, hM⟩
theorem lawFnExactRepairs (w : World) (t1 : T_Catalog) (t2 : T_Ups) (t3 : TL Bool) (h1 : GT.rd w [] t1) (h2 : GT.rd w [] t2) (h3 : GT.rd w [] t3) (ho1 : Ok.ok (GT.dat t1)) (ho2 : Ok.ok (GT.dat t2)) (ho3 : Ok.ok (GT.dat t3)) : Spec Tryz.prog 3 [.agg (GT.cells t1).toArray, .agg (GT.cells t2).toArray, t3.hdr].toArray w [] (IsV (.bool true)) := by
  refine Spec.intro Tryz.func3 rfl Tryz.ntmps3 rfl ?_
  refine W_seq ?_
  refine W_region ?_
  refine L_box rfl rfl (fun bk3 => ?_)
  refine L_box rfl rfl (fun bk4 => ?_)
  refine L_assign rfl rfl ?_
  refine L_nil ?_
  refine W_seq ?_
  refine W_seq ?_
  refine W_region ?_
  refine L_move rfl rfl ?_
  refine L_lenS rfl rfl el28 ?_
  refine L_binV rfl rfl rfl bv_gtr ?_
  refine L_nil ?_
  refine W_weaken (l' := [(2, _), (3, _), (4, _), (19, _)]) (Sub.cons rfl (Sub.cons rfl (Sub.cons rfl (Sub.cons rfl (Sub.nil _))))) (MSub.refl _) ?_
  refine W_cond rfl (fun hc1 => ?_) (fun hc1 => ?_)
  · skip
    skip
    refine W_seq ?_
    refine W_region ?_
    refine L_assign rfl rfl ?_
    refine L_nil ?_
    refine W_ret ?_
    -- return 1 (R2)
    refine res1 rfl (ResOK.tmp rfl) ⟨?_, rfl⟩ (MSub.nil _)
    rfl
  · skip
    have hb3 : (Bk.bulk t3 : Int) ≤ 1048576 := by
      rw [bulk_bools]
      simp only [TL.hdr, dat_els, List.length_map, decide_eq_false_iff_not] at hc1 ⊢
      omega
    refine W_skip ?_
    refine W_seq ?_
    refine W_region ?_
    refine L_assign rfl rfl ?_
    refine L_nil ?_
    refine W_seq ?_
    refine W_region ?_
    refine L_loadW rfl rfl (by first | exact RdC.blk (by repeat (first | exact List.Mem.head _ | apply List.Mem.tail))) (by exact agg24) ?_
    refine L_move rfl rfl ?_
    refine L_callX rfl fn4 rfl (by exact fun w hw => szCatalog_spec w t1 (1048576) (by omega) (by omega) (rd_carry h1 hw) ho1) ?_
    refine L_assign rfl rfl ?_
    refine L_nil ?_
    refine W_seq ?_
    refine W_seq ?_
    refine W_region ?_
    refine L_move rfl rfl ?_
    refine L_binV rfl rfl rfl bv_lss ?_
    refine L_nil ?_
    refine W_weaken (l' := [(2, _), (3, _), (4, _), (7, _), (24, _)]) (Sub.cons rfl (Sub.cons rfl (Sub.cons rfl (Sub.cons rfl (Sub.cons rfl (Sub.nil _)))))) (MSub.refl _) ?_
    refine W_cond rfl (fun hc5 => ?_) (fun hc5 => ?_)
    · skip
      refine W_seq ?_
      refine W_region ?_
      refine L_assign rfl rfl ?_
      refine L_nil ?_
      refine W_ret ?_
      -- return 2 (R6)
      refine res1 rfl (ResOK.tmp rfl) ⟨?_, rfl⟩ (MSub.nil _)
      rfl
    · skip
      have hb1 : (Bk.bulk t1 : Int) ≤ 1048576 := by
        rcases Int.decLt (1048576) (Bk.bulk t1 : Int) with hn | hn
        · omega
        · rw [if_neg (by omega)] at hc5; simp at hc5
      rw [if_pos hb1]
      refine W_skip ?_
      refine W_seq ?_
      refine W_region ?_
      refine L_loadW rfl rfl (by first | exact RdC.blk (by repeat (first | exact List.Mem.head _ | apply List.Mem.tail))) (by exact agg27) ?_
      refine L_move rfl rfl ?_
      refine L_callX rfl fn5 rfl (by exact fun w hw => szUps_spec w t2 (1048576 - (Bk.bulk t1 : Int)) (by omega) (by omega) (rd_carry h2 hw) ho2) ?_
      refine L_assign rfl rfl ?_
      refine L_nil ?_
      refine W_seq ?_
      refine W_seq ?_
      refine W_region ?_
      refine L_move rfl rfl ?_
      refine L_binV rfl rfl rfl bv_lss ?_
      refine L_nil ?_
      refine W_weaken (l' := [(2, _), (3, _), (4, _), (29, _)]) (Sub.cons rfl (Sub.cons rfl (Sub.cons rfl (Sub.cons rfl (Sub.nil _))))) (MSub.refl _) ?_
      refine W_cond rfl (fun hc8 => ?_) (fun hc8 => ?_)
      · skip
        refine W_seq ?_
        refine W_region ?_
        refine L_assign rfl rfl ?_
        refine L_nil ?_
        refine W_ret ?_
        -- return 3 (R9)
        refine res1 rfl (ResOK.tmp rfl) ⟨?_, rfl⟩ (MSub.nil _)
        rfl
      · skip
        have hb2 : (Bk.bulk t2 : Int) ≤ 1048576 - (Bk.bulk t1 : Int) := by
          rcases Int.decLt (1048576 - (Bk.bulk t1 : Int)) (Bk.bulk t2 : Int) with hn | hn
          · omega
          · rw [if_neg (by omega)] at hc8; simp at hc8
        rw [if_pos hb2]
        refine W_skip ?_
        refine W_seq ?_
        refine W_DS (pre := [_, _, _, _, _, _]) (suf := [_, _]) [31, 33, 35] [] _ (perm_nil_left _) mix (by kernel_rfl) (by kernel_rfl) rfl ?_
        refine D_loadW GC.none (OpV.t rfl) (fun hg => (by first | exact RdC.blk (by repeat (first | exact List.Mem.head _ | apply List.Mem.tail)))) (by exact agg24) ?_
        refine D_call1R (fun v M => ∃ m : T_Catalog, v = .agg (GT.cells m).toArray ∧ GT.dat m = GT.dat t1 ∧ M = [treeH m]) fn7 (OpVs.cons (OpV.t rfl) (OpVs.nil)) (by exact fun w F hF hM => (fun w hw => toCatalog_spec w _ (rd_carry h1 hw) (by omega)) w hF) ?_
        refine D_loadW GC.none (OpV.t rfl) (fun hg => (by first | exact RdC.blk (by repeat (first | exact List.Mem.head _ | apply List.Mem.tail)))) (by exact agg27) ?_
        refine D_call1R (fun v M => ∃ m : T_Ups, v = .agg (GT.cells m).toArray ∧ GT.dat m = GT.dat t2 ∧ M = [treeH m]) fn8 (OpVs.cons (OpV.t rfl) (OpVs.nil)) (by exact fun w F hF hM => (fun w hw => toUps_spec w _ (rd_carry h2 hw) (by omega)) w hF) ?_
        refine D_move GC.none (OpV.t rfl) ?_
        refine D_call1R (fun v M => ∃ m : TL Bool, v = m.hdr ∧ GT.dat m = GT.dat t3 ∧ M = [treeH m]) fn9 (OpVs.cons (OpV.t rfl) (OpVs.nil)) (by exact fun w F hF hM => (fun w hw => toBoolS_spec w _ (rd_carry h3 hw) (by omega)) w hF) ?_
        refine DV_nil ?_
        refine Give_R rfl rfl ?_
        rintro v M1 ⟨n3, hv, hn3, rfl⟩
        subst hv
        simp only [List.cons_append, List.nil_append]
        refine Give_drop rfl ?_
        refine Give_R rfl rfl ?_
        rintro v M1 ⟨n2, hv, hn2, rfl⟩
        subst hv
        simp only [List.cons_append, List.nil_append]
        refine Give_drop rfl ?_
        refine Give_R rfl rfl ?_
        rintro v M1 ⟨n1, hv, hn1, rfl⟩
        subst hv
        simp only [List.cons_append, List.nil_append]
        refine Give_drop rfl ?_
        refine Give_nil ?_
        refine L_callR rfl fn6 rfl (by exact fun w hw => sRepairs_spec w n1 n2 n3 (rd_of_tree (by repeat (first | exact List.Mem.head _ | apply List.Mem.tail)) hw.sees) (rd_of_tree (by repeat (first | exact List.Mem.head _ | apply List.Mem.tail)) hw.sees) (rd_of_tree (by repeat (first | exact List.Mem.head _ | apply List.Mem.tail)) hw.sees) (by rw [hn1]; exact ho1) (by rw [hn2]; exact ho2) (by rw [hn3]; exact ho3)) ?_
        rintro v M1 ⟨r1_0, hv, hr1_0, rfl⟩
        subst hv
        simp only [List.cons_append, List.nil_append]
        refine L_assign rfl rfl ?_
        refine L_nil ?_
        refine W_seq ?_
        refine W_region ?_
        refine L_loadW rfl rfl (by first | exact RdC.blk (by repeat (first | exact List.Mem.head _ | apply List.Mem.tail))) (by exact agg24) ?_
        refine L_callR rfl fn7 rfl (by exact fun w hw => toCatalog_spec w _ (rd_carry h1 hw) (by omega)) ?_
        rintro v M1 ⟨n4, hv, hn4, rfl⟩
        subst hv
        simp only [List.cons_append, List.nil_append]
        refine L_alloc rfl zero35 (fun bk9 => ?_)
        refine L_storeW rfl rfl (by repeat (first | exact Pick.here _ | apply Pick.there)) (by exact agg35) (by rfl) (by first | (simp [Value.oneCell', TL.hdr]; done) | (simp [Value.oneCell', TL.hdr, Value.cells]; done) | exact fun v hv => GT.one _ v hv) ?_
        refine L_nil ?_
        refine W_seq ?_
        refine W_region ?_
        refine L_loadW rfl rfl (by first | exact RdC.blk (by repeat (first | exact List.Mem.head _ | apply List.Mem.tail))) (by exact agg27) ?_
        refine L_callR rfl fn8 rfl (by exact fun w hw => toUps_spec w _ (rd_carry h2 hw) (by omega)) ?_
        rintro v M1 ⟨n5, hv, hn5, rfl⟩
        subst hv
        simp only [List.cons_append, List.nil_append]
        refine L_alloc rfl zero39 (fun bk10 => ?_)
        refine L_storeW rfl rfl (by repeat (first | exact Pick.here _ | apply Pick.there)) (by exact agg39) (by rfl) (by first | (simp [Value.oneCell', TL.hdr]; done) | (simp [Value.oneCell', TL.hdr, Value.cells]; done) | exact fun v hv => GT.one _ v hv) ?_
        refine L_nil ?_
        refine W_seq ?_
        refine W_region ?_
        refine L_move rfl rfl ?_
        refine L_callR rfl fn9 rfl (by exact fun w hw => toBoolS_spec w _ (rd_carry h3 hw) (by omega)) ?_
        rintro v M1 ⟨n6, hv, hn6, rfl⟩
        subst hv
        simp only [List.cons_append, List.nil_append]
        refine L_assign rfl rfl ?_
        refine L_nil ?_
        refine W_seq ?_
        refine W_region ?_
        refine L_loadW rfl rfl (by first | exact RdC.blk (by repeat (first | exact List.Mem.head _ | apply List.Mem.tail))) (by exact agg35) ?_
        refine L_loadW rfl rfl (by first | exact RdC.blk (by repeat (first | exact List.Mem.head _ | apply List.Mem.tail))) (by exact agg39) ?_
        refine L_move rfl rfl ?_
        refine L_callR rfl fn10 rfl (by exact fun w hw => iRepairs_spec w n4 n5 n6 (rd_of_tree (by repeat (first | exact List.Mem.head _ | apply List.Mem.tail)) hw.sees) (rd_of_tree (by repeat (first | exact List.Mem.head _ | apply List.Mem.tail)) hw.sees) (rd_of_tree (by repeat (first | exact List.Mem.head _ | apply List.Mem.tail)) hw.sees) (by rw [hn4]; exact ho1) (by rw [hn5]; exact ho2) (by rw [hn6]; exact ho3)) ?_
        rintro v M1 ⟨r2_0, hv, hr2_0, rfl⟩
        subst hv
        simp only [List.cons_append, List.nil_append]
        refine L_assign rfl rfl ?_
        refine L_nil ?_
        refine W_seq ?_
        refine W_seq ?_
        refine W_region ?_
        refine L_move rfl rfl ?_
        refine L_move rfl rfl ?_
        refine L_callX rfl fn11 rfl (by exact fun w hw => eqCopyS_spec w r2_0 r1_0 (rd_of_tree (by repeat (first | exact List.Mem.head _ | apply List.Mem.tail)) hw.sees) (rd_of_tree (by repeat (first | exact List.Mem.head _ | apply List.Mem.tail)) hw.sees)) ?_
        refine L_not rfl rfl ?_
        refine L_nil ?_
        refine W_weaken (l' := [(2, _), (3, _), (4, _), (8, _), (9, _), (10, _), (11, _), (12, _), (50, _)]) (Sub.cons rfl (Sub.cons rfl (Sub.cons rfl (Sub.cons rfl (Sub.cons rfl (Sub.cons rfl (Sub.cons rfl (Sub.cons rfl (Sub.cons rfl (Sub.nil _)))))))))) (MSub.refl _) ?_
        refine W_cond rfl (fun hc15 => ?_) (fun hc15 => ?_)
        · skip
          refine W_seq ?_
          refine W_region ?_
          refine L_assign rfl rfl ?_
          refine L_nil ?_
          refine W_ret ?_
          -- return 4 (R16)
          refine res1 rfl (ResOK.tmp rfl) ⟨?_, rfl⟩ (MSub.nil _)
          exfalso
          have hx2 : eqB (GT.dat r2_0) (GT.dat r1_0) = true := eqB_true.2 (by simp only [hn1, hn2, hn3, hr1_0, hn4, hn5, hn6, hr2_0])
          simp [hx2] at hc15 <;> omega
        · skip
          refine W_skip ?_
          refine W_seq ?_
          refine W_seq ?_
          refine W_D0 [55] mix (by kernel_rfl) rfl ?_
          refine D_loadW GC.none (OpV.t rfl) (fun hg => (by first | exact RdC.blk (by repeat (first | exact List.Mem.head _ | apply List.Mem.tail)))) (by exact agg35) ?_
          refine D_loadW GC.none (OpV.t rfl) (fun hg => (by first | exact RdC.blk (by repeat (first | exact List.Mem.head _ | apply List.Mem.tail)))) (by exact agg24) ?_
          refine D_call1R (fun v M => ∃ m : T_Catalog, v = .agg (GT.cells m).toArray ∧ GT.dat m = GT.dat t1 ∧ M = [treeH m]) fn7 (OpVs.cons (OpV.t rfl) (OpVs.nil)) (by exact fun w F hF hM => (fun w hw => toCatalog_spec w _ (rd_carry h1 hw) (by omega)) w hF) ?_
          refine D_callR [_, _] (FC True (.bool true)) fn12 ⟨⟨_, rfl, fun _ _ h => h⟩, ⟨_, rfl, fun _ _ h => h⟩, trivial⟩ (by
            rintro w F vs hw hM ⟨v1, u1, M1, rfl, ⟨rfl, hx1, _⟩, _, v2, u2, M2, rfl, ⟨m2, rfl, hd2x, rfl⟩, hin, rfl⟩
            obtain rfl := hx1 trivial
            have h := eqCatalog_spec w n4 m2 (rd_of_tree (hM _ (by repeat (first | exact List.Mem.head _ | apply List.Mem.tail))) hw.sees) (rd_of_tree (hin _ (List.mem_singleton.2 rfl)) hw.sees)
            rw [eqB_true.2 (hn4.trans hd2x.symm)] at h
            exact h.toFC) ?_
          refine D_not GC.none (OpV.t rfl) ?_
          refine DV_nil ?_
          refine Give_is rfl rfl ?_
          refine Give_drop rfl ?_
          refine Give_drop rfl ?_
          refine Give_drop rfl ?_
          refine Give_drop rfl ?_
          refine Give_nil ?_
          refine W_weaken (l' := [(2, _), (3, _), (4, _), (8, _), (9, _), (10, _), (11, _), (12, _), (55, _)]) (Sub.cons rfl (Sub.cons rfl (Sub.cons rfl (Sub.cons rfl (Sub.cons rfl (Sub.cons rfl (Sub.cons rfl (Sub.cons rfl (Sub.cons rfl (Sub.nil _)))))))))) (MSub.refl _) ?_
          refine W_condF rfl ?_
          refine W_skip ?_
          refine W_seq ?_
          refine W_seq ?_
          refine W_D0 [60] mix (by kernel_rfl) rfl ?_
          refine D_loadW GC.none (OpV.t rfl) (fun hg => (by first | exact RdC.blk (by repeat (first | exact List.Mem.head _ | apply List.Mem.tail)))) (by exact agg39) ?_
          refine D_loadW GC.none (OpV.t rfl) (fun hg => (by first | exact RdC.blk (by repeat (first | exact List.Mem.head _ | apply List.Mem.tail)))) (by exact agg27) ?_
          refine D_call1R (fun v M => ∃ m : T_Ups, v = .agg (GT.cells m).toArray ∧ GT.dat m = GT.dat t2 ∧ M = [treeH m]) fn8 (OpVs.cons (OpV.t rfl) (OpVs.nil)) (by exact fun w F hF hM => (fun w hw => toUps_spec w _ (rd_carry h2 hw) (by omega)) w hF) ?_
          refine D_callR [_, _] (FC True (.bool true)) fn13 ⟨⟨_, rfl, fun _ _ h => h⟩, ⟨_, rfl, fun _ _ h => h⟩, trivial⟩ (by
            rintro w F vs hw hM ⟨v1, u1, M1, rfl, ⟨rfl, hx1, _⟩, _, v2, u2, M2, rfl, ⟨m2, rfl, hd2x, rfl⟩, hin, rfl⟩
            obtain rfl := hx1 trivial
            have h := eqUps_spec w n5 m2 (rd_of_tree (hM _ (by repeat (first | exact List.Mem.head _ | apply List.Mem.tail))) hw.sees) (rd_of_tree (hin _ (List.mem_singleton.2 rfl)) hw.sees)
            rw [eqB_true.2 (hn5.trans hd2x.symm)] at h
            exact h.toFC) ?_
          refine D_not GC.none (OpV.t rfl) ?_
          refine DV_nil ?_
          refine Give_is rfl rfl ?_
          refine Give_drop rfl ?_
          refine Give_drop rfl ?_
          refine Give_drop rfl ?_
          refine Give_drop rfl ?_
          refine Give_nil ?_
          refine W_weaken (l' := [(2, _), (3, _), (4, _), (8, _), (9, _), (10, _), (11, _), (12, _), (60, _)]) (Sub.cons rfl (Sub.cons rfl (Sub.cons rfl (Sub.cons rfl (Sub.cons rfl (Sub.cons rfl (Sub.cons rfl (Sub.cons rfl (Sub.cons rfl (Sub.nil _)))))))))) (MSub.refl _) ?_
          refine W_condF rfl ?_
          refine W_skip ?_
          refine W_seq ?_
          refine W_seq ?_
          refine W_region ?_
          refine L_move rfl rfl ?_
          refine L_move rfl rfl ?_
          refine L_callR rfl fn9 rfl (by exact fun w hw => toBoolS_spec w _ (rd_carry h3 hw) (by omega)) ?_
          rintro v M1 ⟨n7, hv, hn7, rfl⟩
          subst hv
          simp only [List.cons_append, List.nil_append]
          refine L_callX rfl fn14 rfl (by exact fun w hw => eqBoolS_spec w n6 n7 (rd_of_tree (by repeat (first | exact List.Mem.head _ | apply List.Mem.tail)) hw.sees) (rd_of_tree (by repeat (first | exact List.Mem.head _ | apply List.Mem.tail)) hw.sees)) ?_
          refine L_not rfl rfl ?_
          refine L_nil ?_
          refine W_weaken (l' := [(2, _), (3, _), (4, _), (8, _), (9, _), (10, _), (11, _), (12, _), (65, _)]) (Sub.cons rfl (Sub.cons rfl (Sub.cons rfl (Sub.cons rfl (Sub.cons rfl (Sub.cons rfl (Sub.cons rfl (Sub.cons rfl (Sub.cons rfl (Sub.nil _)))))))))) (MSub.refl _) ?_
          refine W_cond rfl (fun hc21 => ?_) (fun hc21 => ?_)
          · skip
            refine W_seq ?_
            refine W_region ?_
            refine L_assign rfl rfl ?_
            refine L_nil ?_
            refine W_ret ?_
            -- return 5 (R22)
            refine res1 rfl (ResOK.tmp rfl) ⟨?_, rfl⟩ (MSub.nil _)
            exfalso
            have hx3 : eqB (GT.dat n6) (GT.dat n7) = true := eqB_true.2 (by simp only [hn1, hn2, hn3, hr1_0, hn4, hn5, hn6, hr2_0, hn7])
            simp [hx3] at hc21 <;> omega
          · skip
            refine W_skip ?_
            refine W_seq ?_
            refine W_region ?_
            refine L_assign rfl rfl ?_
            refine L_nil ?_
            refine W_seq ?_
            have hc_n4 : Mv.cnt n4 ≤ 1000000000000 := cntv_le n4 rfl (by rw [bulk_dat hn4]; omega)
            refine W_region ?_
            refine L_loadW rfl rfl (by first | exact RdC.blk (by repeat (first | exact List.Mem.head _ | apply List.Mem.tail))) (by exact agg35) ?_
            refine L_move rfl rfl ?_
            refine L_call1 (h := treeH n4) rfl fn15 rfl (by repeat (first | exact Pick.here _ | apply Pick.there)) (by exact fun w hw => markCatalog_spec w n4 1 (by omega) (by omega)) ?_
            rintro v M1 ⟨hv, rfl⟩
            subst hv
            simp only [List.cons_append, List.nil_append]
            refine L_assign rfl rfl ?_
            refine L_nil ?_
            refine W_seq ?_
            have hc_n5 : Mv.cnt n5 ≤ 1000000000000 := cntv_le n5 rfl (by rw [bulk_dat hn5]; omega)
            refine W_region ?_
            refine L_loadW rfl rfl (by first | exact RdC.blk (by repeat (first | exact List.Mem.head _ | apply List.Mem.tail))) (by exact agg39) ?_
            refine L_move rfl rfl ?_
            refine L_call1 (h := treeH n5) rfl fn16 rfl (by repeat (first | exact Pick.here _ | apply Pick.there)) (by exact fun w hw => markUps_spec w n5 (1 + Mv.cnt n4) (by omega) (by omega)) ?_
            rintro v M1 ⟨hv, rfl⟩
            subst hv
            simp only [List.cons_append, List.nil_append]
            refine L_assign rfl rfl ?_
            refine L_nil ?_
            refine W_seq ?_
            have hc_n6 : Mk.cnt n6 ≤ 1000000000000 := cntk_le n6 rfl (by rw [bulk_dat hn6]; omega)
            refine W_region ?_
            refine L_move rfl rfl ?_
            refine L_move rfl rfl ?_
            refine L_call1 (h := treeH n6) rfl fn17 rfl (by repeat (first | exact Pick.here _ | apply Pick.there)) (by exact fun w hw => markBoolS_spec w n6 ((1 + Mv.cnt n4) + Mv.cnt n5) (by omega) (by omega)) ?_
            rintro v M1 ⟨hv, rfl⟩
            subst hv
            simp only [List.cons_append, List.nil_append]
            refine L_assign rfl rfl ?_
            refine L_nil ?_
            refine W_seq ?_
            refine W_seq ?_
            refine W_D0 [82] mix (by kernel_rfl) rfl ?_
            refine D_move GC.none (OpV.t rfl) ?_
            refine D_bin GC.none (OpV.t rfl) OpV.c (fun hg => bv_lss) ?_
            refine D_move GC.none (OpV.t rfl) ?_
            refine D_move (GC.some rfl rfl) (OpV.t rfl) ?_
            refine D_move (GC.some rfl rfl) (OpV.t rfl) ?_
            refine D_callX (GC.some rfl rfl) fn11 (OpVs.cons (OpV.s rfl) (OpVs.cons (OpV.s rfl) (OpVs.nil))) (by exact fun hg w F hF hM => eqCopyS_spec w r2_0 r1_0 (rd_of_tree (hM _ (by repeat (first | exact List.Mem.head _ | apply List.Mem.tail))) hF.sees) (rd_of_tree (hM _ (by repeat (first | exact List.Mem.head _ | apply List.Mem.tail))) hF.sees)) ?_
            refine D_not (GC.some rfl rfl) (OpV.s rfl) ?_
            refine D_or (cy := _) GC.none (OpV.t rfl) (OpV.s rfl) (fun h hb => ⟨h, hb⟩) ?_
            refine DV_nil ?_
            refine Give_is rfl rfl ?_
            refine Give_drop rfl ?_
            refine Give_drop rfl ?_
            refine Give_drop rfl ?_
            refine Give_drop rfl ?_
            refine Give_drop rfl ?_
            refine Give_drop rfl ?_
            refine Give_drop rfl ?_
            refine Give_nil ?_
            refine W_weaken (l' := [(2, _), (3, _), (4, _), (8, _), (12, _), (82, _)]) (Sub.cons rfl (Sub.cons rfl (Sub.cons rfl (Sub.cons rfl (Sub.cons rfl (Sub.cons rfl (Sub.nil _))))))) (MSub.refl _) ?_
            refine W_cond rfl (fun hc27 => ?_) (fun hc27 => ?_)
            · skip
              refine W_seq ?_
              refine W_region ?_
              refine L_assign rfl rfl ?_
              refine L_nil ?_
              refine W_ret ?_
              -- return 6 (R28)
              refine res1 rfl (ResOK.tmp rfl) ⟨?_, rfl⟩ (MSub.nil _)
              exfalso
              have hx5 : eqB (GT.dat r2_0) (GT.dat r1_0) = true := eqB_true.2 (by simp only [hn1, hn2, hn3, hr1_0, hn4, hn5, hn6, hr2_0, hn7])
              simp [hx5] at hc27 <;> omega
            · skip
              refine W_skip ?_
              refine W_seq ?_
              refine W_region ?_
              refine L_assign rfl rfl ?_
              refine L_nil ?_
              refine W_seq ?_
              have hc_r2_0 : Mk.cnt r2_0 ≤ 1000000000000 := cntk_le r2_0 rfl (Nat.le_trans (reps_bd _ _ _ (by rw [hn4]; exact ho1) _ hr2_0) (by omega))
              refine W_region ?_
              refine L_move rfl rfl ?_
              refine L_move rfl rfl ?_
              refine L_call1 (h := treeH r2_0) rfl fn18 rfl (by repeat (first | exact Pick.here _ | apply Pick.there)) (by exact fun w hw => markCopyS_spec w r2_0 1 (by omega) (by omega)) ?_
              rintro v M1 ⟨hv, rfl⟩
              subst hv
              simp only [List.cons_append, List.nil_append]
              refine L_assign rfl rfl ?_
              refine L_nil ?_
              refine W_seq ?_
              refine W_region ?_
              refine L_assign rfl rfl ?_
              refine L_nil ?_
              refine W_seq ?_
              refine W_region ?_
              refine L_move rfl rfl ?_
              refine L_move rfl rfl ?_
              refine L_callX rfl fn19 rfl (by exact fun w hw => (by have h := heldCopyS_spec w r2_0 1 (by omega) (by omega) (rd_of_tree (by repeat (first | exact List.Mem.head _ | apply List.Mem.tail)) hw.sees); rw [hdr_mk] at h; exact h)) ?_
              refine L_assign rfl rfl ?_
              refine L_nil ?_
              refine W_seq ?_
              refine W_seq ?_
              refine W_region ?_
              refine L_move rfl rfl ?_
              refine L_binV rfl rfl rfl bv_lss ?_
              refine L_nil ?_
              refine W_weaken (l' := [(2, _), (3, _), (4, _), (8, _), (12, _), (14, _), (15, _), (90, _)]) (Sub.cons rfl (Sub.cons rfl (Sub.cons rfl (Sub.cons rfl (Sub.cons rfl (Sub.cons rfl (Sub.cons rfl (Sub.cons rfl (Sub.nil _))))))))) (MSub.refl _) ?_
              refine W_cond rfl (fun hc33 => ?_) (fun hc33 => ?_)
              · skip
                refine W_seq ?_
                refine W_region ?_
                refine L_assign rfl rfl ?_
                refine L_nil ?_
                refine W_ret ?_
                -- return 7 (R34)
                refine res1 rfl (ResOK.tmp rfl) ⟨?_, rfl⟩ (MSub.nil _)
                exfalso
                simp [] at hc33 <;> omega
              · skip
                refine W_skip ?_
                refine W_seq ?_
                refine W_seq ?_
                refine W_region ?_
                refine L_move rfl rfl ?_
                refine L_move rfl rfl ?_
                refine L_binV rfl rfl rfl bv_neq ?_
                refine L_nil ?_
                refine W_weaken (l' := [(2, _), (3, _), (4, _), (8, _), (12, _), (14, _), (93, _)]) (Sub.cons rfl (Sub.cons rfl (Sub.cons rfl (Sub.cons rfl (Sub.cons rfl (Sub.cons rfl (Sub.cons rfl (Sub.nil _)))))))) (MSub.refl _) ?_
                refine W_cond rfl (fun hc35 => ?_) (fun hc35 => ?_)
                · skip
                  refine W_seq ?_
                  refine W_region ?_
                  refine L_assign rfl rfl ?_
                  refine L_nil ?_
                  refine W_ret ?_
                  -- return 8 (R36)
                  refine res1 rfl (ResOK.tmp rfl) ⟨?_, rfl⟩ (MSub.nil _)
                  exfalso
                  simp [] at hc35 <;> omega
                · skip
                  refine W_skip ?_
                  refine W_seq ?_
                  refine W_DS (pre := [_, _, _, _, _, _]) (suf := [_, _]) [95, 97, 99] [] _ (perm_nil_left _) mix (by kernel_rfl) (by kernel_rfl) rfl ?_
                  refine D_loadW GC.none (OpV.t rfl) (fun hg => (by first | exact RdC.blk (by repeat (first | exact List.Mem.head _ | apply List.Mem.tail)))) (by exact agg24) ?_
                  refine D_call1R (fun v M => ∃ m : T_Catalog, v = .agg (GT.cells m).toArray ∧ GT.dat m = GT.dat t1 ∧ M = [treeH m]) fn7 (OpVs.cons (OpV.t rfl) (OpVs.nil)) (by exact fun w F hF hM => (fun w hw => toCatalog_spec w _ (rd_carry h1 hw) (by omega)) w hF) ?_
                  refine D_loadW GC.none (OpV.t rfl) (fun hg => (by first | exact RdC.blk (by repeat (first | exact List.Mem.head _ | apply List.Mem.tail)))) (by exact agg27) ?_
                  refine D_call1R (fun v M => ∃ m : T_Ups, v = .agg (GT.cells m).toArray ∧ GT.dat m = GT.dat t2 ∧ M = [treeH m]) fn8 (OpVs.cons (OpV.t rfl) (OpVs.nil)) (by exact fun w F hF hM => (fun w hw => toUps_spec w _ (rd_carry h2 hw) (by omega)) w hF) ?_
                  refine D_move GC.none (OpV.t rfl) ?_
                  refine D_call1R (fun v M => ∃ m : TL Bool, v = m.hdr ∧ GT.dat m = GT.dat t3 ∧ M = [treeH m]) fn9 (OpVs.cons (OpV.t rfl) (OpVs.nil)) (by exact fun w F hF hM => (fun w hw => toBoolS_spec w _ (rd_carry h3 hw) (by omega)) w hF) ?_
                  refine DV_nil ?_
                  refine Give_R rfl rfl ?_
                  rintro v M1 ⟨n10, hv, hn10, rfl⟩
                  subst hv
                  simp only [List.cons_append, List.nil_append]
                  refine Give_drop rfl ?_
                  refine Give_R rfl rfl ?_
                  rintro v M1 ⟨n9, hv, hn9, rfl⟩
                  subst hv
                  simp only [List.cons_append, List.nil_append]
                  refine Give_drop rfl ?_
                  refine Give_R rfl rfl ?_
                  rintro v M1 ⟨n8, hv, hn8, rfl⟩
                  subst hv
                  simp only [List.cons_append, List.nil_append]
                  refine Give_drop rfl ?_
                  refine Give_nil ?_
                  refine L_callR rfl fn10 rfl (by exact fun w hw => iRepairs_spec w n8 n9 n10 (rd_of_tree (by repeat (first | exact List.Mem.head _ | apply List.Mem.tail)) hw.sees) (rd_of_tree (by repeat (first | exact List.Mem.head _ | apply List.Mem.tail)) hw.sees) (rd_of_tree (by repeat (first | exact List.Mem.head _ | apply List.Mem.tail)) hw.sees) (by rw [hn8]; exact ho1) (by rw [hn9]; exact ho2) (by rw [hn10]; exact ho3)) ?_
                  rintro v M1 ⟨r3_0, hv, hr3_0, rfl⟩
                  subst hv
                  simp only [List.cons_append, List.nil_append]
                  refine L_assign rfl rfl ?_
                  refine L_nil ?_
                  refine W_seq ?_
                  refine W_seq ?_
                  refine W_region ?_
                  refine L_move rfl rfl ?_
                  refine L_move rfl rfl ?_
                  refine L_callX rfl fn11 rfl (by exact fun w hw => eqCopyS_spec w r3_0 r1_0 (rd_of_tree (by repeat (first | exact List.Mem.head _ | apply List.Mem.tail)) hw.sees) (rd_of_tree (by repeat (first | exact List.Mem.head _ | apply List.Mem.tail)) hw.sees)) ?_
                  refine L_not rfl rfl ?_
                  refine L_nil ?_
                  refine W_weaken (l' := [(12, _), (14, _), (104, _)]) (Sub.cons rfl (Sub.cons rfl (Sub.cons rfl (Sub.nil _)))) (MSub.refl _) ?_
                  refine W_cond rfl (fun hc38 => ?_) (fun hc38 => ?_)
                  · skip
                    refine W_seq ?_
                    refine W_region ?_
                    refine L_assign rfl rfl ?_
                    refine L_nil ?_
                    refine W_ret ?_
                    -- return 9 (R39)
                    refine res1 rfl (ResOK.tmp rfl) ⟨?_, rfl⟩ (MSub.nil _)
                    exfalso
                    have hx2 : eqB (GT.dat r3_0) (GT.dat r1_0) = true := eqB_true.2 (by simp only [hn1, hn2, hn3, hr1_0, hn4, hn5, hn6, hr2_0, hn7, hn8, hn9, hn10, hr3_0])
                    simp [hx2] at hc38 <;> omega
                  · skip
                    refine W_skip ?_
                    refine W_seq ?_
                    refine W_region ?_
                    refine L_assign rfl rfl ?_
                    refine L_nil ?_
                    refine W_seq ?_
                    refine W_region ?_
                    refine L_move rfl rfl ?_
                    refine L_move rfl rfl ?_
                    refine L_callX rfl fn19 rfl (by exact fun w hw => (by have h := heldCopyS_spec w r2_0 1 (by omega) (by omega) (rd_of_tree (by repeat (first | exact List.Mem.head _ | apply List.Mem.tail)) hw.sees); rw [hdr_mk] at h; exact h)) ?_
                    refine L_assign rfl rfl ?_
                    refine L_nil ?_
                    refine W_seq ?_
                    refine W_seq ?_
                    refine W_region ?_
                    refine L_move rfl rfl ?_
                    refine L_binV rfl rfl rfl bv_lss ?_
                    refine L_nil ?_
                    refine W_weaken (l' := [(14, _), (15, _), (109, _)]) (Sub.cons rfl (Sub.cons rfl (Sub.cons rfl (Sub.nil _)))) (MSub.refl _) ?_
                    refine W_cond rfl (fun hc42 => ?_) (fun hc42 => ?_)
                    · skip
                      refine W_seq ?_
                      refine W_region ?_
                      refine L_assign rfl rfl ?_
                      refine L_nil ?_
                      refine W_ret ?_
                      -- return 10 (R43)
                      refine res1 rfl (ResOK.tmp rfl) ⟨?_, rfl⟩ (MSub.nil _)
                      exfalso
                      simp [] at hc42 <;> omega
                    · skip
                      refine W_skip ?_
                      refine W_seq ?_
                      refine W_seq ?_
                      refine W_region ?_
                      refine L_move rfl rfl ?_
                      refine L_move rfl rfl ?_
                      refine L_binV rfl rfl rfl bv_neq ?_
                      refine L_nil ?_
                      refine W_weaken (l' := [(112, _)]) (Sub.cons rfl (Sub.nil _)) (MSub.refl _) ?_
                      refine W_cond rfl (fun hc44 => ?_) (fun hc44 => ?_)
                      · skip
                        refine W_seq ?_
                        refine W_region ?_
                        refine L_assign rfl rfl ?_
                        refine L_nil ?_
                        refine W_ret ?_
                        -- return 11 (R45)
                        refine res1 rfl (ResOK.tmp rfl) ⟨?_, rfl⟩ (MSub.nil _)
                        exfalso
                        simp [] at hc44 <;> omega
                      · skip
                        refine W_skip ?_
                        refine W_seq ?_
                        refine W_region ?_
                        refine L_assign rfl rfl ?_
                        refine L_nil ?_
                        refine W_ret ?_
                        -- return 12 (R46)
                        refine res1 rfl (ResOK.tmp rfl) ⟨?_, rfl⟩ (MSub.nil _)
                        rfl

end Go.Proofs.SL
