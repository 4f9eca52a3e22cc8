/- The law FnExactLost. -/
import Derived.Test.YthebgoognabinaaPC2
import Derived.Test.YthebgoognabinaaFB
namespace Go.Proofs.SL
open Go

theorem bds_eights : ∀ {l : List ByteArray}, (∀ x, x ∈ l → x.size = 8) → bds ByteArray l ≤ 8 * l.length
  | [], _ => by simp [bds]
  | x :: l, h => by
    have h1 := h x (List.mem_cons_self ..)
    have := bds_eights (l := l) fun y hy => h y (List.mem_cons_of_mem _ hy)
    have h5 : Bd.bd (τ := ByteArray) x = x.size := rfl
    simp only [bds, List.length_cons, h5]
    omega
theorem allL_eights {c : D_Catalog} : ∀ x, x ∈ allL c → x.size = 8 := by
  intro x hx
  unfold allL at hx
  split at hx
  · rename_i hk
    obtain ⟨_, hc2⟩ := catOk_facts hk
    have := ((foldPut_facts (chunksOf c) [] List.Pairwise.nil).2 x).1 hx
    rcases this with h | h
    · unfold chunksOf at h
      obtain ⟨s, hs, h⟩ := List.mem_flatMap.1 h
      obtain ⟨p, hp, h⟩ := List.mem_flatMap.1 h
      exact ((hc2 s hs).2 p hp).2 x h
    · cases h
  · cases hx
theorem lost_bd (c : D_Catalog) (u : D_Ups) (up : List Bool) (hc : Ok.ok c) (g : TL ByteArray) (h : GT.dat g = lostL c u up) : Bk.bulk g ≤ 1000 := by
  rw [Bd.eq, h]
  have h0 := allL_len hc
  have h2 : ∀ l : List ByteArray, (∀ x, x ∈ l → x.size = 8) → l.length ≤ 100 → Bd.bd (τ := TL ByteArray) l ≤ 1000 := by
    intro l hl hn
    have := bds_eights hl
    show l.length + bds ByteArray l ≤ 1000
    omega
  unfold lostL
  split
  · refine h2 _ (fun x hx => allL_eights x (List.mem_filter.1 hx).1) (Nat.le_trans (List.length_filter_le _ _) h0)
  · exact h2 [] (by simp) (by simp)

theorem fn71 : IsFn Try.prog 71 := ⟨_, Try.func71, by kernel_rfl, rfl⟩
theorem fn19 : IsFn Try.prog 19 := ⟨_, Try.func19, by kernel_rfl, rfl⟩
theorem fn72 : IsFn Try.prog 72 := ⟨_, Try.func72, by kernel_rfl, rfl⟩
theorem agg92 : aggOf Try.prog 92 = some 1 := by kernel_rfl
theorem fn61 : IsFn Try.prog 61 := ⟨_, Try.func61, by kernel_rfl, rfl⟩
theorem agg24 : aggOf Try.prog 24 = some 2 := by kernel_rfl
theorem fn14 : IsFn Try.prog 14 := ⟨_, Try.func14, by kernel_rfl, rfl⟩
theorem fn63 : IsFn Try.prog 63 := ⟨_, Try.func63, by kernel_rfl, rfl⟩
theorem fn16 : IsFn Try.prog 16 := ⟨_, Try.func16, by kernel_rfl, rfl⟩
theorem fn67 : IsFn Try.prog 67 := ⟨_, Try.func67, by kernel_rfl, rfl⟩
theorem fn66 : IsFn Try.prog 66 := ⟨_, Try.func66, by kernel_rfl, rfl⟩
theorem fn68 : IsFn Try.prog 68 := ⟨_, Try.func68, by kernel_rfl, rfl⟩
theorem fn65 : IsFn Try.prog 65 := ⟨_, Try.func65, by kernel_rfl, rfl⟩
theorem fn18 : IsFn Try.prog 18 := ⟨_, Try.func18, by kernel_rfl, rfl⟩
theorem fn70 : IsFn Try.prog 70 := ⟨_, Try.func70, by kernel_rfl, rfl⟩
theorem fn74 : IsFn Try.prog 74 := ⟨_, Try.func74, by kernel_rfl, rfl⟩
theorem sLost_spec (w : World) (a0 : T_Catalog) (a1 : T_Ups) (a2 : TL Bool) (h0 : GT.rd w [] a0) (h1 : GT.rd w [] a1) (h2 : GT.rd w [] a2) (ho0 : Ok.ok (GT.dat a0)) (ho1 : Ok.ok (GT.dat a1)) (ho2 : Ok.ok (GT.dat a2))  : Spec Try.prog 66 [.agg (GT.cells a0).toArray, .agg (GT.cells a1).toArray, a2.hdr].toArray w [] (fun v M => ∃ (x0 : TL ByteArray), v = x0.hdr ∧ GT.dat x0 = (lostL (GT.dat a0) (GT.dat a1) (GT.dat a2)) ∧ M = [treeH x0]) := (s_Lost_walk w a0 a1 a2 h0 h1 h2 _ (s_Lost_eq ho0 ho1 ho2.1)).to fun v M ⟨x0, hv, hd, hM⟩ => by
  exact ⟨x0, hv, congrArg (fun z => z) hd, hM⟩
theorem iLost_spec (w : World) (a0 : T_Catalog) (a1 : T_Ups) (a2 : TL Bool) (h0 : GT.rd w [] a0) (h1 : GT.rd w [] a1) (h2 : GT.rd w [] a2) (ho0 : Ok.ok (GT.dat a0)) (ho1 : Ok.ok (GT.dat a1)) (ho2 : Ok.ok (GT.dat a2))  : Spec Try.prog 68 [.agg (GT.cells a0).toArray, .agg (GT.cells a1).toArray, a2.hdr].toArray w [] (fun v M => ∃ (x0 : TL ByteArray), v = x0.hdr ∧ GT.dat x0 = (lostL (GT.dat a0) (GT.dat a1) (GT.dat a2)) ∧ M = [treeH x0]) := (i_Lost_walk w a0 a1 a2 h0 h1 h2 _ (i_Lost_eq ho0 ho1 ho2.1)).to fun v M ⟨x0, hv, hd, hM⟩ => by
  exact ⟨x0, hv, congrArg (fun z => z) hd, hM⟩
theorem lawFnExactLost (w : World) (t1 : T_Catalog) (t2 : T_Ups) (t3 : TL Bool) (h1 : GT.rd w [] t1) (h2 : GT.rd w [] t2) (h3 : GT.rd w [] t3) (ho1 : Ok.ok (GT.dat t1)) (ho2 : Ok.ok (GT.dat t2)) (ho3 : Ok.ok (GT.dat t3)) : Spec Try.prog 11 [.agg (GT.cells t1).toArray, .agg (GT.cells t2).toArray, t3.hdr].toArray w [] (IsV (.bool true)) := by
  refine Spec.intro Try.func11 rfl Try.ntmps11 rfl ?_
  refine W_seq ?_
  refine W_region ?_
  refine L_box rfl rfl (fun bk3 => ?_)
  refine L_box rfl rfl (fun bk4 => ?_)
  refine L_assign rfl rfl ?_
  refine L_nil ?_
  refine W_seq ?_
  refine W_seq ?_
  refine W_region ?_
  refine L_move rfl rfl ?_
  refine L_lenS rfl rfl el101 ?_
  refine L_binV rfl rfl rfl bv_gtr ?_
  refine L_nil ?_
  refine W_weaken (l' := [(2, _), (3, _), (4, _), (19, _)]) (Sub.cons rfl (Sub.cons rfl (Sub.cons rfl (Sub.cons rfl (Sub.nil _))))) (MSub.refl _) ?_
  refine W_cond rfl (fun hc1 => ?_) (fun hc1 => ?_)
  · skip
    skip
    refine W_seq ?_
    refine W_region ?_
    refine L_assign rfl rfl ?_
    refine L_nil ?_
    refine W_ret ?_
    -- return 1 (R2)
    refine res1 rfl (ResOK.tmp rfl) ⟨?_, rfl⟩ (MSub.nil _)
    rfl
  · skip
    have hb3 : (Bk.bulk t3 : Int) ≤ 1048576 := by
      rw [bulk_bools]
      simp only [TL.hdr, dat_els, List.length_map, decide_eq_false_iff_not] at hc1 ⊢
      omega
    refine W_skip ?_
    refine W_seq ?_
    refine W_region ?_
    refine L_assign rfl rfl ?_
    refine L_nil ?_
    refine W_seq ?_
    refine W_region ?_
    refine L_loadW rfl rfl (by first | exact RdC.blk (by repeat (first | exact List.Mem.head _ | apply List.Mem.tail))) (by exact agg92) ?_
    refine L_move rfl rfl ?_
    refine L_callX rfl fn61 rfl (by exact fun w hw => szCatalog_spec w t1 (1048576) (by omega) (by omega) (rd_carry h1 hw) ho1) ?_
    refine L_assign rfl rfl ?_
    refine L_nil ?_
    refine W_seq ?_
    refine W_seq ?_
    refine W_region ?_
    refine L_move rfl rfl ?_
    refine L_binV rfl rfl rfl bv_lss ?_
    refine L_nil ?_
    refine W_weaken (l' := [(2, _), (3, _), (4, _), (7, _), (24, _)]) (Sub.cons rfl (Sub.cons rfl (Sub.cons rfl (Sub.cons rfl (Sub.cons rfl (Sub.nil _)))))) (MSub.refl _) ?_
    refine W_cond rfl (fun hc5 => ?_) (fun hc5 => ?_)
    · skip
      refine W_seq ?_
      refine W_region ?_
      refine L_assign rfl rfl ?_
      refine L_nil ?_
      refine W_ret ?_
      -- return 2 (R6)
      refine res1 rfl (ResOK.tmp rfl) ⟨?_, rfl⟩ (MSub.nil _)
      rfl
    · skip
      have hb1 : (Bk.bulk t1 : Int) ≤ 1048576 := by
        rcases Int.decLt (1048576) (Bk.bulk t1 : Int) with hn | hn
        · omega
        · rw [if_neg (by omega)] at hc5; simp at hc5
      rw [if_pos hb1]
      refine W_skip ?_
      refine W_seq ?_
      refine W_region ?_
      refine L_loadW rfl rfl (by first | exact RdC.blk (by repeat (first | exact List.Mem.head _ | apply List.Mem.tail))) (by exact agg24) ?_
      refine L_move rfl rfl ?_
      refine L_callX rfl fn14 rfl (by exact fun w hw => szUps_spec w t2 (1048576 - (Bk.bulk t1 : Int)) (by omega) (by omega) (rd_carry h2 hw) ho2) ?_
      refine L_assign rfl rfl ?_
      refine L_nil ?_
      refine W_seq ?_
      refine W_seq ?_
      refine W_region ?_
      refine L_move rfl rfl ?_
      refine L_binV rfl rfl rfl bv_lss ?_
      refine L_nil ?_
      refine W_weaken (l' := [(2, _), (3, _), (4, _), (29, _)]) (Sub.cons rfl (Sub.cons rfl (Sub.cons rfl (Sub.cons rfl (Sub.nil _))))) (MSub.refl _) ?_
      refine W_cond rfl (fun hc8 => ?_) (fun hc8 => ?_)
      · skip
        refine W_seq ?_
        refine W_region ?_
        refine L_assign rfl rfl ?_
        refine L_nil ?_
        refine W_ret ?_
        -- return 3 (R9)
        refine res1 rfl (ResOK.tmp rfl) ⟨?_, rfl⟩ (MSub.nil _)
        rfl
      · skip
        have hb2 : (Bk.bulk t2 : Int) ≤ 1048576 - (Bk.bulk t1 : Int) := by
          rcases Int.decLt (1048576 - (Bk.bulk t1 : Int)) (Bk.bulk t2 : Int) with hn | hn
          · omega
          · rw [if_neg (by omega)] at hc8; simp at hc8
        rw [if_pos hb2]
        refine W_skip ?_
        refine W_seq ?_
        refine W_DS (pre := [_, _, _, _, _, _]) (suf := [_, _]) [31, 33, 35] [] _ (perm_nil_left _) mix (by kernel_rfl) (by kernel_rfl) rfl ?_
        refine D_loadW GC.none (OpV.t rfl) (fun hg => (by first | exact RdC.blk (by repeat (first | exact List.Mem.head _ | apply List.Mem.tail)))) (by exact agg92) ?_
        refine D_call1R (fun v M => ∃ m : T_Catalog, v = .agg (GT.cells m).toArray ∧ GT.dat m = GT.dat t1 ∧ M = [treeH m]) fn63 (OpVs.cons (OpV.t rfl) (OpVs.nil)) (by exact fun w F hF hM => (fun w hw => toCatalog_spec w _ (rd_carry h1 hw) (by omega)) w hF) ?_
        refine D_loadW GC.none (OpV.t rfl) (fun hg => (by first | exact RdC.blk (by repeat (first | exact List.Mem.head _ | apply List.Mem.tail)))) (by exact agg24) ?_
        refine D_call1R (fun v M => ∃ m : T_Ups, v = .agg (GT.cells m).toArray ∧ GT.dat m = GT.dat t2 ∧ M = [treeH m]) fn16 (OpVs.cons (OpV.t rfl) (OpVs.nil)) (by exact fun w F hF hM => (fun w hw => toUps_spec w _ (rd_carry h2 hw) (by omega)) w hF) ?_
        refine D_move GC.none (OpV.t rfl) ?_
        refine D_call1R (fun v M => ∃ m : TL Bool, v = m.hdr ∧ GT.dat m = GT.dat t3 ∧ M = [treeH m]) fn67 (OpVs.cons (OpV.t rfl) (OpVs.nil)) (by exact fun w F hF hM => (fun w hw => toBoolS_spec w _ (rd_carry h3 hw) (by omega)) w hF) ?_
        refine DV_nil ?_
        refine Give_R rfl rfl ?_
        rintro v M1 ⟨n3, hv, hn3, rfl⟩
        subst hv
        simp only [List.cons_append, List.nil_append]
        refine Give_drop rfl ?_
        refine Give_R rfl rfl ?_
        rintro v M1 ⟨n2, hv, hn2, rfl⟩
        subst hv
        simp only [List.cons_append, List.nil_append]
        refine Give_drop rfl ?_
        refine Give_R rfl rfl ?_
        rintro v M1 ⟨n1, hv, hn1, rfl⟩
        subst hv
        simp only [List.cons_append, List.nil_append]
        refine Give_drop rfl ?_
        refine Give_nil ?_
        refine L_callR rfl fn66 rfl (by exact fun w hw => sLost_spec w n1 n2 n3 (rd_of_tree (by repeat (first | exact List.Mem.head _ | apply List.Mem.tail)) hw.sees) (rd_of_tree (by repeat (first | exact List.Mem.head _ | apply List.Mem.tail)) hw.sees) (rd_of_tree (by repeat (first | exact List.Mem.head _ | apply List.Mem.tail)) hw.sees) (by rw [hn1]; exact ho1) (by rw [hn2]; exact ho2) (by rw [hn3]; exact ho3)) ?_
        rintro v M1 ⟨r1_0, hv, hr1_0, rfl⟩
        subst hv
        simp only [List.cons_append, List.nil_append]
        refine L_assign rfl rfl ?_
        refine L_nil ?_
        refine W_seq ?_
        refine W_region ?_
        refine L_loadW rfl rfl (by first | exact RdC.blk (by repeat (first | exact List.Mem.head _ | apply List.Mem.tail))) (by exact agg92) ?_
        refine L_callR rfl fn63 rfl (by exact fun w hw => toCatalog_spec w _ (rd_carry h1 hw) (by omega)) ?_
        rintro v M1 ⟨n4, hv, hn4, rfl⟩
        subst hv
        simp only [List.cons_append, List.nil_append]
        refine L_alloc rfl zero97 (fun bk9 => ?_)
        refine L_storeW rfl rfl (by repeat (first | exact Pick.here _ | apply Pick.there)) (by exact agg97) (by rfl) (by first | (simp [Value.oneCell', TL.hdr]; done) | (simp [Value.oneCell', TL.hdr, Value.cells]; done) | exact fun v hv => GT.one _ v hv) ?_
        refine L_nil ?_
        refine W_seq ?_
        refine W_region ?_
        refine L_loadW rfl rfl (by first | exact RdC.blk (by repeat (first | exact List.Mem.head _ | apply List.Mem.tail))) (by exact agg24) ?_
        refine L_callR rfl fn16 rfl (by exact fun w hw => toUps_spec w _ (rd_carry h2 hw) (by omega)) ?_
        rintro v M1 ⟨n5, hv, hn5, rfl⟩
        subst hv
        simp only [List.cons_append, List.nil_append]
        refine L_alloc rfl zero28 (fun bk10 => ?_)
        refine L_storeW rfl rfl (by repeat (first | exact Pick.here _ | apply Pick.there)) (by exact agg28) (by rfl) (by first | (simp [Value.oneCell', TL.hdr]; done) | (simp [Value.oneCell', TL.hdr, Value.cells]; done) | exact fun v hv => GT.one _ v hv) ?_
        refine L_nil ?_
        refine W_seq ?_
        refine W_region ?_
        refine L_move rfl rfl ?_
        refine L_callR rfl fn67 rfl (by exact fun w hw => toBoolS_spec w _ (rd_carry h3 hw) (by omega)) ?_
        rintro v M1 ⟨n6, hv, hn6, rfl⟩
        subst hv
        simp only [List.cons_append, List.nil_append]
        refine L_assign rfl rfl ?_
        refine L_nil ?_
        refine W_seq ?_
        refine W_region ?_
        refine L_loadW rfl rfl (by first | exact RdC.blk (by repeat (first | exact List.Mem.head _ | apply List.Mem.tail))) (by exact agg97) ?_
        refine L_loadW rfl rfl (by first | exact RdC.blk (by repeat (first | exact List.Mem.head _ | apply List.Mem.tail))) (by exact agg28) ?_
        refine L_move rfl rfl ?_
        refine L_callR rfl fn68 rfl (by exact fun w hw => iLost_spec w n4 n5 n6 (rd_of_tree (by repeat (first | exact List.Mem.head _ | apply List.Mem.tail)) hw.sees) (rd_of_tree (by repeat (first | exact List.Mem.head _ | apply List.Mem.tail)) hw.sees) (rd_of_tree (by repeat (first | exact List.Mem.head _ | apply List.Mem.tail)) hw.sees) (by rw [hn4]; exact ho1) (by rw [hn5]; exact ho2) (by rw [hn6]; exact ho3)) ?_
        rintro v M1 ⟨r2_0, hv, hr2_0, rfl⟩
        subst hv
        simp only [List.cons_append, List.nil_append]
        refine L_assign rfl rfl ?_
        refine L_nil ?_
        refine W_seq ?_
        refine W_seq ?_
        refine W_region ?_
        refine L_move rfl rfl ?_
        refine L_move rfl rfl ?_
        refine L_callX rfl fn69 rfl (by exact fun w hw => eqStringS_spec w r2_0 r1_0 (rd_of_tree (by repeat (first | exact List.Mem.head _ | apply List.Mem.tail)) hw.sees) (rd_of_tree (by repeat (first | exact List.Mem.head _ | apply List.Mem.tail)) hw.sees)) ?_
        refine L_not rfl rfl ?_
        refine L_nil ?_
        refine W_weaken (l' := [(2, _), (3, _), (4, _), (8, _), (9, _), (10, _), (11, _), (12, _), (50, _)]) (Sub.cons rfl (Sub.cons rfl (Sub.cons rfl (Sub.cons rfl (Sub.cons rfl (Sub.cons rfl (Sub.cons rfl (Sub.cons rfl (Sub.cons rfl (Sub.nil _)))))))))) (MSub.refl _) ?_
        refine W_cond rfl (fun hc15 => ?_) (fun hc15 => ?_)
        · skip
          refine W_seq ?_
          refine W_region ?_
          refine L_assign rfl rfl ?_
          refine L_nil ?_
          refine W_ret ?_
          -- return 4 (R16)
          refine res1 rfl (ResOK.tmp rfl) ⟨?_, rfl⟩ (MSub.nil _)
          exfalso
          have hx2 : eqB (GT.dat r2_0) (GT.dat r1_0) = true := eqB_true.2 (by simp only [hn1, hn2, hn3, hr1_0, hn4, hn5, hn6, hr2_0])
          simp [hx2] at hc15 <;> omega
        · skip
          refine W_skip ?_
          refine W_seq ?_
          refine W_seq ?_
          refine W_D0 [55] mix (by kernel_rfl) rfl ?_
          refine D_loadW GC.none (OpV.t rfl) (fun hg => (by first | exact RdC.blk (by repeat (first | exact List.Mem.head _ | apply List.Mem.tail)))) (by exact agg97) ?_
          refine D_loadW GC.none (OpV.t rfl) (fun hg => (by first | exact RdC.blk (by repeat (first | exact List.Mem.head _ | apply List.Mem.tail)))) (by exact agg92) ?_
          refine D_call1R (fun v M => ∃ m : T_Catalog, v = .agg (GT.cells m).toArray ∧ GT.dat m = GT.dat t1 ∧ M = [treeH m]) fn63 (OpVs.cons (OpV.t rfl) (OpVs.nil)) (by exact fun w F hF hM => (fun w hw => toCatalog_spec w _ (rd_carry h1 hw) (by omega)) w hF) ?_
          refine D_callR [_, _] (FC True (.bool true)) fn65 ⟨⟨_, rfl, fun _ _ h => h⟩, ⟨_, rfl, fun _ _ h => h⟩, trivial⟩ (by
            rintro w F vs hw hM ⟨v1, u1, M1, rfl, ⟨rfl, hx1, _⟩, _, v2, u2, M2, rfl, ⟨m2, rfl, hd2x, rfl⟩, hin, rfl⟩
            obtain rfl := hx1 trivial
            have h := eqCatalog_spec w n4 m2 (rd_of_tree (hM _ (by repeat (first | exact List.Mem.head _ | apply List.Mem.tail))) hw.sees) (rd_of_tree (hin _ (List.mem_singleton.2 rfl)) hw.sees)
            rw [eqB_true.2 (hn4.trans hd2x.symm)] at h
            exact h.toFC) ?_
          refine D_not GC.none (OpV.t rfl) ?_
          refine DV_nil ?_
          refine Give_is rfl rfl ?_
          refine Give_drop rfl ?_
          refine Give_drop rfl ?_
          refine Give_drop rfl ?_
          refine Give_drop rfl ?_
          refine Give_nil ?_
          refine W_weaken (l' := [(2, _), (3, _), (4, _), (8, _), (9, _), (10, _), (11, _), (12, _), (55, _)]) (Sub.cons rfl (Sub.cons rfl (Sub.cons rfl (Sub.cons rfl (Sub.cons rfl (Sub.cons rfl (Sub.cons rfl (Sub.cons rfl (Sub.cons rfl (Sub.nil _)))))))))) (MSub.refl _) ?_
          refine W_condF rfl ?_
          refine W_skip ?_
          refine W_seq ?_
          refine W_seq ?_
          refine W_D0 [60] mix (by kernel_rfl) rfl ?_
          refine D_loadW GC.none (OpV.t rfl) (fun hg => (by first | exact RdC.blk (by repeat (first | exact List.Mem.head _ | apply List.Mem.tail)))) (by exact agg28) ?_
          refine D_loadW GC.none (OpV.t rfl) (fun hg => (by first | exact RdC.blk (by repeat (first | exact List.Mem.head _ | apply List.Mem.tail)))) (by exact agg24) ?_
          refine D_call1R (fun v M => ∃ m : T_Ups, v = .agg (GT.cells m).toArray ∧ GT.dat m = GT.dat t2 ∧ M = [treeH m]) fn16 (OpVs.cons (OpV.t rfl) (OpVs.nil)) (by exact fun w F hF hM => (fun w hw => toUps_spec w _ (rd_carry h2 hw) (by omega)) w hF) ?_
          refine D_callR [_, _] (FC True (.bool true)) fn18 ⟨⟨_, rfl, fun _ _ h => h⟩, ⟨_, rfl, fun _ _ h => h⟩, trivial⟩ (by
            rintro w F vs hw hM ⟨v1, u1, M1, rfl, ⟨rfl, hx1, _⟩, _, v2, u2, M2, rfl, ⟨m2, rfl, hd2x, rfl⟩, hin, rfl⟩
            obtain rfl := hx1 trivial
            have h := eqUps_spec w n5 m2 (rd_of_tree (hM _ (by repeat (first | exact List.Mem.head _ | apply List.Mem.tail))) hw.sees) (rd_of_tree (hin _ (List.mem_singleton.2 rfl)) hw.sees)
            rw [eqB_true.2 (hn5.trans hd2x.symm)] at h
            exact h.toFC) ?_
          refine D_not GC.none (OpV.t rfl) ?_
          refine DV_nil ?_
          refine Give_is rfl rfl ?_
          refine Give_drop rfl ?_
          refine Give_drop rfl ?_
          refine Give_drop rfl ?_
          refine Give_drop rfl ?_
          refine Give_nil ?_
          refine W_weaken (l' := [(2, _), (3, _), (4, _), (8, _), (9, _), (10, _), (11, _), (12, _), (60, _)]) (Sub.cons rfl (Sub.cons rfl (Sub.cons rfl (Sub.cons rfl (Sub.cons rfl (Sub.cons rfl (Sub.cons rfl (Sub.cons rfl (Sub.cons rfl (Sub.nil _)))))))))) (MSub.refl _) ?_
          refine W_condF rfl ?_
          refine W_skip ?_
          refine W_seq ?_
          refine W_seq ?_
          refine W_region ?_
          refine L_move rfl rfl ?_
          refine L_move rfl rfl ?_
          refine L_callR rfl fn67 rfl (by exact fun w hw => toBoolS_spec w _ (rd_carry h3 hw) (by omega)) ?_
          rintro v M1 ⟨n7, hv, hn7, rfl⟩
          subst hv
          simp only [List.cons_append, List.nil_append]
          refine L_callX rfl fn70 rfl (by exact fun w hw => eqBoolS_spec w n6 n7 (rd_of_tree (by repeat (first | exact List.Mem.head _ | apply List.Mem.tail)) hw.sees) (rd_of_tree (by repeat (first | exact List.Mem.head _ | apply List.Mem.tail)) hw.sees)) ?_
          refine L_not rfl rfl ?_
          refine L_nil ?_
          refine W_weaken (l' := [(2, _), (3, _), (4, _), (8, _), (9, _), (10, _), (11, _), (12, _), (65, _)]) (Sub.cons rfl (Sub.cons rfl (Sub.cons rfl (Sub.cons rfl (Sub.cons rfl (Sub.cons rfl (Sub.cons rfl (Sub.cons rfl (Sub.cons rfl (Sub.nil _)))))))))) (MSub.refl _) ?_
          refine W_cond rfl (fun hc21 => ?_) (fun hc21 => ?_)
          · skip
            refine W_seq ?_
            refine W_region ?_
            refine L_assign rfl rfl ?_
            refine L_nil ?_
            refine W_ret ?_
            -- return 5 (R22)
            refine res1 rfl (ResOK.tmp rfl) ⟨?_, rfl⟩ (MSub.nil _)
            exfalso
            have hx3 : eqB (GT.dat n6) (GT.dat n7) = true := eqB_true.2 (by simp only [hn1, hn2, hn3, hr1_0, hn4, hn5, hn6, hr2_0, hn7])
            simp [hx3] at hc21 <;> omega
          · skip
            refine W_skip ?_
            refine W_seq ?_
            refine W_region ?_
            refine L_assign rfl rfl ?_
            refine L_nil ?_
            refine W_seq ?_
            have hc_n4 : Mv.cnt n4 ≤ 1000000000000 := cntv_le n4 rfl (by rw [bulk_dat hn4]; omega)
            refine W_region ?_
            refine L_loadW rfl rfl (by first | exact RdC.blk (by repeat (first | exact List.Mem.head _ | apply List.Mem.tail))) (by exact agg97) ?_
            refine L_move rfl rfl ?_
            refine L_call1 (h := treeH n4) rfl fn71 rfl (by repeat (first | exact Pick.here _ | apply Pick.there)) (by exact fun w hw => markCatalog_spec w n4 1 (by omega) (by omega)) ?_
            rintro v M1 ⟨hv, rfl⟩
            subst hv
            simp only [List.cons_append, List.nil_append]
            refine L_assign rfl rfl ?_
            refine L_nil ?_
            refine W_seq ?_
            have hc_n5 : Mv.cnt n5 ≤ 1000000000000 := cntv_le n5 rfl (by rw [bulk_dat hn5]; omega)
            refine W_region ?_
            refine L_loadW rfl rfl (by first | exact RdC.blk (by repeat (first | exact List.Mem.head _ | apply List.Mem.tail))) (by exact agg28) ?_
            refine L_move rfl rfl ?_
            refine L_call1 (h := treeH n5) rfl fn19 rfl (by repeat (first | exact Pick.here _ | apply Pick.there)) (by exact fun w hw => markUps_spec w n5 (1 + Mv.cnt n4) (by omega) (by omega)) ?_
            rintro v M1 ⟨hv, rfl⟩
            subst hv
            simp only [List.cons_append, List.nil_append]
            refine L_assign rfl rfl ?_
            refine L_nil ?_
            refine W_seq ?_
            have hc_n6 : Mk.cnt n6 ≤ 1000000000000 := cntk_le n6 rfl (by rw [bulk_dat hn6]; omega)
            refine W_region ?_
            refine L_move rfl rfl ?_
            refine L_move rfl rfl ?_
            refine L_call1 (h := treeH n6) rfl fn72 rfl (by repeat (first | exact Pick.here _ | apply Pick.there)) (by exact fun w hw => markBoolS_spec w n6 ((1 + Mv.cnt n4) + Mv.cnt n5) (by omega) (by omega)) ?_
            rintro v M1 ⟨hv, rfl⟩
            subst hv
            simp only [List.cons_append, List.nil_append]
            refine L_assign rfl rfl ?_
            refine L_nil ?_
            refine W_seq ?_
            refine W_seq ?_
            refine W_D0 [82] mix (by kernel_rfl) rfl ?_
            refine D_move GC.none (OpV.t rfl) ?_
            refine D_bin GC.none (OpV.t rfl) OpV.c (fun hg => bv_lss) ?_
            refine D_move GC.none (OpV.t rfl) ?_
            refine D_move (GC.some rfl rfl) (OpV.t rfl) ?_
            refine D_move (GC.some rfl rfl) (OpV.t rfl) ?_
            refine D_callX (GC.some rfl rfl) fn69 (OpVs.cons (OpV.s rfl) (OpVs.cons (OpV.s rfl) (OpVs.nil))) (by exact fun hg w F hF hM => eqStringS_spec w r2_0 r1_0 (rd_of_tree (hM _ (by repeat (first | exact List.Mem.head _ | apply List.Mem.tail))) hF.sees) (rd_of_tree (hM _ (by repeat (first | exact List.Mem.head _ | apply List.Mem.tail))) hF.sees)) ?_
            refine D_not (GC.some rfl rfl) (OpV.s rfl) ?_
            refine D_or (cy := _) GC.none (OpV.t rfl) (OpV.s rfl) (fun h hb => ⟨h, hb⟩) ?_
            refine DV_nil ?_
            refine Give_is rfl rfl ?_
            refine Give_drop rfl ?_
            refine Give_drop rfl ?_
            refine Give_drop rfl ?_
            refine Give_drop rfl ?_
            refine Give_drop rfl ?_
            refine Give_drop rfl ?_
            refine Give_drop rfl ?_
            refine Give_nil ?_
            refine W_weaken (l' := [(2, _), (3, _), (4, _), (8, _), (12, _), (82, _)]) (Sub.cons rfl (Sub.cons rfl (Sub.cons rfl (Sub.cons rfl (Sub.cons rfl (Sub.cons rfl (Sub.nil _))))))) (MSub.refl _) ?_
            refine W_cond rfl (fun hc27 => ?_) (fun hc27 => ?_)
            · skip
              refine W_seq ?_
              refine W_region ?_
              refine L_assign rfl rfl ?_
              refine L_nil ?_
              refine W_ret ?_
              -- return 6 (R28)
              refine res1 rfl (ResOK.tmp rfl) ⟨?_, rfl⟩ (MSub.nil _)
              exfalso
              have hx5 : eqB (GT.dat r2_0) (GT.dat r1_0) = true := eqB_true.2 (by simp only [hn1, hn2, hn3, hr1_0, hn4, hn5, hn6, hr2_0, hn7])
              simp [hx5] at hc27 <;> omega
            · skip
              refine W_skip ?_
              refine W_seq ?_
              refine W_region ?_
              refine L_assign rfl rfl ?_
              refine L_nil ?_
              refine W_seq ?_
              have hc_r2_0 : Mk.cnt r2_0 ≤ 1000000000000 := cntk_le r2_0 rfl (Nat.le_trans (lost_bd _ _ _ (by rw [hn4]; exact ho1) _ hr2_0) (by omega))
              refine W_region ?_
              refine L_move rfl rfl ?_
              refine L_move rfl rfl ?_
              refine L_call1 (h := treeH r2_0) rfl fn73 rfl (by repeat (first | exact Pick.here _ | apply Pick.there)) (by exact fun w hw => markStringS_spec w r2_0 1 (by omega) (by omega)) ?_
              rintro v M1 ⟨hv, rfl⟩
              subst hv
              simp only [List.cons_append, List.nil_append]
              refine L_assign rfl rfl ?_
              refine L_nil ?_
              refine W_seq ?_
              refine W_region ?_
              refine L_assign rfl rfl ?_
              refine L_nil ?_
              refine W_seq ?_
              refine W_region ?_
              refine L_move rfl rfl ?_
              refine L_move rfl rfl ?_
              refine L_callX rfl fn74 rfl (by exact fun w hw => (by have h := heldStringS_spec w r2_0 1 (by omega) (by omega) (rd_of_tree (by repeat (first | exact List.Mem.head _ | apply List.Mem.tail)) hw.sees); rw [hdr_mk] at h; exact h)) ?_
              refine L_assign rfl rfl ?_
              refine L_nil ?_
              refine W_seq ?_
              refine W_seq ?_
              refine W_region ?_
              refine L_move rfl rfl ?_
              refine L_binV rfl rfl rfl bv_lss ?_
              refine L_nil ?_
              refine W_weaken (l' := [(2, _), (3, _), (4, _), (8, _), (12, _), (14, _), (15, _), (90, _)]) (Sub.cons rfl (Sub.cons rfl (Sub.cons rfl (Sub.cons rfl (Sub.cons rfl (Sub.cons rfl (Sub.cons rfl (Sub.cons rfl (Sub.nil _))))))))) (MSub.refl _) ?_
              refine W_cond rfl (fun hc33 => ?_) (fun hc33 => ?_)
              · skip
                refine W_seq ?_
                refine W_region ?_
                refine L_assign rfl rfl ?_
                refine L_nil ?_
                refine W_ret ?_
                -- return 7 (R34)
                refine res1 rfl (ResOK.tmp rfl) ⟨?_, rfl⟩ (MSub.nil _)
                exfalso
                simp [] at hc33 <;> omega
              · skip
                refine W_skip ?_
                refine W_seq ?_
                refine W_seq ?_
                refine W_region ?_
                refine L_move rfl rfl ?_
                refine L_move rfl rfl ?_
                refine L_binV rfl rfl rfl bv_neq ?_
                refine L_nil ?_
                refine W_weaken (l' := [(2, _), (3, _), (4, _), (8, _), (12, _), (14, _), (93, _)]) (Sub.cons rfl (Sub.cons rfl (Sub.cons rfl (Sub.cons rfl (Sub.cons rfl (Sub.cons rfl (Sub.cons rfl (Sub.nil _)))))))) (MSub.refl _) ?_
                refine W_cond rfl (fun hc35 => ?_) (fun hc35 => ?_)
                · skip
                  refine W_seq ?_
                  refine W_region ?_
                  refine L_assign rfl rfl ?_
                  refine L_nil ?_
                  refine W_ret ?_
                  -- return 8 (R36)
                  refine res1 rfl (ResOK.tmp rfl) ⟨?_, rfl⟩ (MSub.nil _)
                  exfalso
                  simp [] at hc35 <;> omega
                · skip
                  refine W_skip ?_
                  refine W_seq ?_
                  refine W_DS (pre := [_, _, _, _, _, _]) (suf := [_, _]) [95, 97, 99] [] _ (perm_nil_left _) mix (by kernel_rfl) (by kernel_rfl) rfl ?_
                  refine D_loadW GC.none (OpV.t rfl) (fun hg => (by first | exact RdC.blk (by repeat (first | exact List.Mem.head _ | apply List.Mem.tail)))) (by exact agg92) ?_
                  refine D_call1R (fun v M => ∃ m : T_Catalog, v = .agg (GT.cells m).toArray ∧ GT.dat m = GT.dat t1 ∧ M = [treeH m]) fn63 (OpVs.cons (OpV.t rfl) (OpVs.nil)) (by exact fun w F hF hM => (fun w hw => toCatalog_spec w _ (rd_carry h1 hw) (by omega)) w hF) ?_
                  refine D_loadW GC.none (OpV.t rfl) (fun hg => (by first | exact RdC.blk (by repeat (first | exact List.Mem.head _ | apply List.Mem.tail)))) (by exact agg24) ?_
                  refine D_call1R (fun v M => ∃ m : T_Ups, v = .agg (GT.cells m).toArray ∧ GT.dat m = GT.dat t2 ∧ M = [treeH m]) fn16 (OpVs.cons (OpV.t rfl) (OpVs.nil)) (by exact fun w F hF hM => (fun w hw => toUps_spec w _ (rd_carry h2 hw) (by omega)) w hF) ?_
                  refine D_move GC.none (OpV.t rfl) ?_
                  refine D_call1R (fun v M => ∃ m : TL Bool, v = m.hdr ∧ GT.dat m = GT.dat t3 ∧ M = [treeH m]) fn67 (OpVs.cons (OpV.t rfl) (OpVs.nil)) (by exact fun w F hF hM => (fun w hw => toBoolS_spec w _ (rd_carry h3 hw) (by omega)) w hF) ?_
                  refine DV_nil ?_
                  refine Give_R rfl rfl ?_
                  rintro v M1 ⟨n10, hv, hn10, rfl⟩
                  subst hv
                  simp only [List.cons_append, List.nil_append]
                  refine Give_drop rfl ?_
                  refine Give_R rfl rfl ?_
                  rintro v M1 ⟨n9, hv, hn9, rfl⟩
                  subst hv
                  simp only [List.cons_append, List.nil_append]
                  refine Give_drop rfl ?_
                  refine Give_R rfl rfl ?_
                  rintro v M1 ⟨n8, hv, hn8, rfl⟩
                  subst hv
                  simp only [List.cons_append, List.nil_append]
                  refine Give_drop rfl ?_
                  refine Give_nil ?_
                  refine L_callR rfl fn68 rfl (by exact fun w hw => iLost_spec w n8 n9 n10 (rd_of_tree (by repeat (first | exact List.Mem.head _ | apply List.Mem.tail)) hw.sees) (rd_of_tree (by repeat (first | exact List.Mem.head _ | apply List.Mem.tail)) hw.sees) (rd_of_tree (by repeat (first | exact List.Mem.head _ | apply List.Mem.tail)) hw.sees) (by rw [hn8]; exact ho1) (by rw [hn9]; exact ho2) (by rw [hn10]; exact ho3)) ?_
                  rintro v M1 ⟨r3_0, hv, hr3_0, rfl⟩
                  subst hv
                  simp only [List.cons_append, List.nil_append]
                  refine L_assign rfl rfl ?_
                  refine L_nil ?_
                  refine W_seq ?_
                  refine W_seq ?_
                  refine W_region ?_
                  refine L_move rfl rfl ?_
                  refine L_move rfl rfl ?_
                  refine L_callX rfl fn69 rfl (by exact fun w hw => eqStringS_spec w r3_0 r1_0 (rd_of_tree (by repeat (first | exact List.Mem.head _ | apply List.Mem.tail)) hw.sees) (rd_of_tree (by repeat (first | exact List.Mem.head _ | apply List.Mem.tail)) hw.sees)) ?_
                  refine L_not rfl rfl ?_
                  refine L_nil ?_
                  refine W_weaken (l' := [(12, _), (14, _), (104, _)]) (Sub.cons rfl (Sub.cons rfl (Sub.cons rfl (Sub.nil _)))) (MSub.refl _) ?_
                  refine W_cond rfl (fun hc38 => ?_) (fun hc38 => ?_)
                  · skip
                    refine W_seq ?_
                    refine W_region ?_
                    refine L_assign rfl rfl ?_
                    refine L_nil ?_
                    refine W_ret ?_
                    -- return 9 (R39)
                    refine res1 rfl (ResOK.tmp rfl) ⟨?_, rfl⟩ (MSub.nil _)
                    exfalso
                    have hx2 : eqB (GT.dat r3_0) (GT.dat r1_0) = true := eqB_true.2 (by simp only [hn1, hn2, hn3, hr1_0, hn4, hn5, hn6, hr2_0, hn7, hn8, hn9, hn10, hr3_0])
                    simp [hx2] at hc38 <;> omega
                  · skip
                    refine W_skip ?_
                    refine W_seq ?_
                    refine W_region ?_
                    refine L_assign rfl rfl ?_
                    refine L_nil ?_
                    refine W_seq ?_
                    refine W_region ?_
                    refine L_move rfl rfl ?_
                    refine L_move rfl rfl ?_
                    refine L_callX rfl fn74 rfl (by exact fun w hw => (by have h := heldStringS_spec w r2_0 1 (by omega) (by omega) (rd_of_tree (by repeat (first | exact List.Mem.head _ | apply List.Mem.tail)) hw.sees); rw [hdr_mk] at h; exact h)) ?_
                    refine L_assign rfl rfl ?_
                    refine L_nil ?_
                    refine W_seq ?_
                    refine W_seq ?_
                    refine W_region ?_
                    refine L_move rfl rfl ?_
                    refine L_binV rfl rfl rfl bv_lss ?_
                    refine L_nil ?_
                    refine W_weaken (l' := [(14, _), (15, _), (109, _)]) (Sub.cons rfl (Sub.cons rfl (Sub.cons rfl (Sub.nil _)))) (MSub.refl _) ?_
                    refine W_cond rfl (fun hc42 => ?_) (fun hc42 => ?_)
                    · skip
                      refine W_seq ?_
                      refine W_region ?_
                      refine L_assign rfl rfl ?_
                      refine L_nil ?_
                      refine W_ret ?_
                      -- return 10 (R43)
                      refine res1 rfl (ResOK.tmp rfl) ⟨?_, rfl⟩ (MSub.nil _)
                      exfalso
                      simp [] at hc42 <;> omega
                    · skip
                      refine W_skip ?_
                      refine W_seq ?_
                      refine W_seq ?_
                      refine W_region ?_
                      refine L_move rfl rfl ?_
                      refine L_move rfl rfl ?_
                      refine L_binV rfl rfl rfl bv_neq ?_
                      refine L_nil ?_
                      refine W_weaken (l' := [(112, _)]) (Sub.cons rfl (Sub.nil _)) (MSub.refl _) ?_
                      refine W_cond rfl (fun hc44 => ?_) (fun hc44 => ?_)
                      · skip
                        refine W_seq ?_
                        refine W_region ?_
                        refine L_assign rfl rfl ?_
                        refine L_nil ?_
                        refine W_ret ?_
                        -- return 11 (R45)
                        refine res1 rfl (ResOK.tmp rfl) ⟨?_, rfl⟩ (MSub.nil _)
                        exfalso
                        simp [] at hc44 <;> omega
                      · skip
                        refine W_skip ?_
                        refine W_seq ?_
                        refine W_region ?_
                        refine L_assign rfl rfl ?_
                        refine L_nil ?_
                        refine W_ret ?_
                        -- return 12 (R46)
                        refine res1 rfl (ResOK.tmp rfl) ⟨?_, rfl⟩ (MSub.nil _)
                        rfl

end Go.Proofs.SL
