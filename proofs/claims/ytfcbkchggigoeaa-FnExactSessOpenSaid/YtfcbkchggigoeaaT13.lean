import Derived.Test.YtfcbkchggigoeaaT12
namespace Go.Proofs.SL
open Go

abbrev D_Desks := Int × Int × List (Int × Int × Int × List ByteArray)
def goodO (d : D_Desks) (c wt : Int) : Prop := (1 ≤ c ∧ c ≤ 9) ∧ (1 ≤ wt ∧ wt ≤ 100) ∧ d.2.2.length < 4 ∧ d.2.1 < 1000
noncomputable def sessOpenD (d : D_Desks) (c wt : Int) : D_Desks × Int × Bool :=
  if pB (okD d) = true then (if pB (goodO d c wt) = true then ((d.1, d.2.1 + 1, d.2.2 ++ [(d.2.1, c, d.1 + wt, [])]), d.2.1, true) else (d, 0, false)) else ((0, 0, []), 0, false)

theorem bld75 : bldOf Try.prog 75 = some ([(0, 1), (1, 1), (2, 1), (3, 1)], [.int .i64 0, .int .i64 0, .int .i64 0, .slice none 0 0]) := by kernel_rfl
theorem fn17 : IsFn Try.prog 17 := ⟨_, Try.func17, by kernel_rfl, rfl⟩
theorem fn56 : IsFn Try.prog 56 := ⟨_, Try.func56, by kernel_rfl, rfl⟩
theorem fn19 : IsFn Try.prog 19 := ⟨_, Try.func19, by kernel_rfl, rfl⟩
theorem fn57 : IsFn Try.prog 57 := ⟨_, Try.func57, by kernel_rfl, rfl⟩
theorem sSessOpen_spec (w : World) (t1 : T_Desks) (c wt : Int) (h1 : GT.rd w [] t1) (hb : Bk.bulk t1 ≤ 1048576) : Spec Try.prog 32 [.agg (GT.cells t1).toArray, .int .i64 c, .int .i64 wt].toArray w [] (fun v M => ∃ r : T_Desks, v = .tuple #[.agg (GT.cells r).toArray, .int .i64 (sessOpenD (GT.dat t1) c wt).2.1, .bool (sessOpenD (GT.dat t1) c wt).2.2] ∧ GT.dat r = (sessOpenD (GT.dat t1) c wt).1 ∧ M = [treeH r]) := by
  obtain ⟨a1, a2, ⟨a3, c3, e3, x1, y1⟩⟩ := t1
  have hm1 : x1.length ≤ 9223372036854775807 := rd_len h1.2.2
  change Spec _ _ [Value.agg #[.int .i64 a1, .int .i64 a2, TL.hdr ⟨a3, c3, e3, x1, y1⟩], .int .i64 c, .int .i64 wt].toArray w [] _
  refine Spec.intro Try.func32 rfl Try.ntmps32 rfl ?_
  refine W_seq ?_
  refine W_region ?_
  refine L_box rfl rfl (fun bk3 => ?_)
  refine L_alloc rfl zero41 (fun bk6 => ?_)
  refine L_assign rfl rfl ?_
  refine L_assign rfl rfl ?_
  refine L_nil ?_
  refine W_seq ?_
  refine W_seq ?_
  refine W_region ?_
  refine L_loadW rfl rfl (by first | exact RdC.blk (by repeat (first | exact List.Mem.head _ | apply List.Mem.tail))) (by exact agg41) ?_
  refine L_callX rfl fn17 rfl (by exact fun w hw => sDesksOk_spec w ((a1, a2, ⟨a3, c3, e3, x1, y1⟩) : T_Desks) (rd_carry h1 hw)) ?_
  refine L_not rfl rfl ?_
  refine L_nil ?_
  refine W_weaken (l' := [(1, _), (2, _), (3, _), (6, _), (12, _)]) (Sub.cons rfl (Sub.cons rfl (Sub.cons rfl (Sub.cons rfl (Sub.cons rfl (Sub.nil _)))))) (MSub.refl _) ?_
  refine W_cond rfl (fun hc1 => ?_) (fun hc1 => ?_)
  · skip
    refine W_seq ?_
    refine W_region ?_
    refine L_build (xs := []) (cs := [.int .i64 0, .int .i64 0, .slice none 0 0]) rfl rfl bld41 rfl ?_
    refine L_storeW rfl rfl (by repeat (first | exact Pick.here _ | apply Pick.there)) (by exact agg41) (by rfl) (by first | (simp [Value.oneCell', TL.hdr]; done) | exact fun v hv => GT.one _ v hv) ?_
    refine L_assign rfl rfl ?_
    refine L_assign rfl rfl ?_
    refine L_nil ?_
    refine W_conv (M' := treeH ((0, 0, TL.nil T_Sess 0) : T_Desks) :: _) (fun w h => h.addFlat (flat_pair (flat_int (by unfold inR; omega)) (flat_pair (flat_int (by unfold inR; omega)) (flat_nil 0)))) ?_
    refine W_ret ?_
    -- return 1 (R2)
    refine res3 rfl (ResOK.cell rfl (by repeat (first | exact List.Mem.head _ | apply List.Mem.tail)) (by exact agg41)) (ResOK.tmp rfl) (ResOK.tmp rfl) ⟨((0, 0, TL.nil T_Sess 0) : T_Desks), ?_, ?_, rfl⟩ (MSub.cons (by repeat (first | exact Pick.here _ | apply Pick.there)) (MSub.nil _))
    all_goals
      have hok : ¬ pB (okD (GT.dat ((a1, a2, ⟨a3, c3, e3, x1, y1⟩) : T_Desks))) = true := by simpa using hc1
      unfold sessOpenD
      rw [if_neg hok]
      try rfl
  · skip
    have hokk : pB (okD (GT.dat ((a1, a2, ⟨a3, c3, e3, x1, y1⟩) : T_Desks))) = true := by simpa using hc1
    have hokd := pB_iff.1 hokk
    obtain ⟨hq1, hq2, hq3, _⟩ := hokd
    simp only [dat_pair, dat_int, dat_TL, List.length_map] at hq1 hq2 hq3
    refine W_skip ?_
    refine W_seq ?_
    refine W_region ?_
    refine L_loadW rfl rfl (by first | exact RdC.blk (by repeat (first | exact List.Mem.head _ | apply List.Mem.tail))) (by exact agg41) ?_
    refine L_callR rfl fn56 rfl (by exact fun w hw => l29Copy_spec w ((a1, a2, ⟨a3, c3, e3, x1, y1⟩) : T_Desks) (rd_carry h1 hw) hb) ?_
    rintro v M1 ⟨⟨n1, n2, ⟨n3, nc, ne, nx, nt⟩⟩, hv, hd, he, rfl⟩
    subst hv
    replace he : ne = 75 := he
    subst he
    simp only [dat_pair, dat_int, dat_TL, Prod.mk.injEq] at hd
    obtain ⟨hd1, hd2, hnx⟩ := hd
    subst hd1; subst hd2
    have hnl : nx.length = x1.length := by simpa using congrArg List.length hnx
    simp only [List.cons_append, List.nil_append]
    rw [show GT.cells ((n1, n2, (⟨n3, nc, 75, nx, nt⟩ : TL T_Sess)) : T_Desks) = [.int .i64 n1, .int .i64 n2, .slice n3 nx.length nc] from rfl]
    refine L_alloc rfl zero41 (fun bk9 => ?_)
    refine L_storeW rfl rfl (by repeat (first | exact Pick.here _ | apply Pick.there)) (by exact agg41) (by rfl) (by first | (simp [Value.oneCell', TL.hdr]; done) | exact fun v hv => GT.one _ v hv) ?_
    refine L_nil ?_
    refine W_seq ?_
    refine W_seq ?_
    refine W_D0 [34] mix (by kernel_rfl) rfl ?_
    refine D_move GC.none (OpV.t rfl) ?_
    refine D_callX GC.none fn36 (OpVs.cons (OpV.t rfl) (OpVs.cons OpV.c (OpVs.cons OpV.c (OpVs.nil)))) (by exact fun hg w F hF hM => (fun w hw => l1In_spec w _ _ _) w hF) ?_
    refine D_not GC.none (OpV.t rfl) ?_
    refine D_move GC.none (OpV.t rfl) ?_
    refine D_move (GC.some rfl rfl) (OpV.t rfl) ?_
    refine D_callX (GC.some rfl rfl) fn36 (OpVs.cons (OpV.s rfl) (OpVs.cons OpV.c (OpVs.cons OpV.c (OpVs.nil)))) (by exact fun hg w F hF hM => (fun w hw => l1In_spec w _ _ _) w hF) ?_
    refine D_not (GC.some rfl rfl) (OpV.s rfl) ?_
    refine D_or (cy := _) GC.none (OpV.t rfl) (OpV.s rfl) (fun h hb => ⟨h, hb⟩) ?_
    refine D_move GC.none (OpV.t rfl) ?_
    refine D_fieldAddr (GC.some rfl rfl) (OpV.t rfl) fld41_2 ?_
    refine D_load (GC.some rfl rfl) (OpV.s rfl) (fun hg => (by first | exact RdC.blk (by repeat (first | exact List.Mem.head _ | apply List.Mem.tail)))) one39 rfl ?_
    refine D_lenS (GC.some rfl rfl) (OpV.s rfl) el39 ?_
    refine D_bin (GC.some rfl rfl) (OpV.s rfl) OpV.c (fun hg => bv_geq) ?_
    refine D_or (cy := _) GC.none (OpV.t rfl) (OpV.s rfl) (fun h hb => ⟨h, hb⟩) ?_
    refine D_move GC.none (OpV.t rfl) ?_
    refine D_fieldAddr (GC.some rfl rfl) (OpV.t rfl) fld41_1 ?_
    refine D_load (GC.some rfl rfl) (OpV.s rfl) (fun hg => (by first | exact RdC.blk (by repeat (first | exact List.Mem.head _ | apply List.Mem.tail)))) one3 rfl ?_
    refine D_bin (GC.some rfl rfl) (OpV.s rfl) OpV.c (fun hg => bv_geq) ?_
    refine D_or (cy := _) GC.none (OpV.t rfl) (OpV.s rfl) (fun h hb => ⟨h, hb⟩) ?_
    refine DV_nil ?_
    refine Give_is rfl rfl ?_
    refine Give_drop rfl ?_
    refine Give_drop rfl ?_
    refine Give_drop rfl ?_
    refine Give_drop rfl ?_
    refine Give_drop rfl ?_
    refine Give_drop rfl ?_
    refine Give_drop rfl ?_
    refine Give_drop rfl ?_
    refine Give_drop rfl ?_
    refine Give_drop rfl ?_
    refine Give_drop rfl ?_
    refine Give_drop rfl ?_
    refine Give_drop rfl ?_
    refine Give_drop rfl ?_
    refine Give_drop rfl ?_
    refine Give_drop rfl ?_
    refine Give_drop rfl ?_
    refine Give_drop rfl ?_
    refine Give_nil ?_
    refine W_weaken (l' := [(1, _), (2, _), (3, _), (6, _), (9, _), (34, _)]) (Sub.cons rfl (Sub.cons rfl (Sub.cons rfl (Sub.cons rfl (Sub.cons rfl (Sub.cons rfl (Sub.nil _))))))) (MSub.refl _) ?_
    refine W_cond rfl (fun hc4 => ?_) (fun hc4 => ?_)
    · skip
      have hg : ¬ pB (goodO (GT.dat ((n1, n2, ⟨a3, c3, e3, x1, y1⟩) : T_Desks)) c wt) = true := by
        intro h
        have hg := pB_iff.1 h
        unfold goodO at hg
        simp only [dat_pair, dat_int, dat_TL, List.length_map] at hg
        obtain ⟨e1, e2, e3, e4⟩ := hg
        simp [e1, e2] at hc4 <;> omega
      refine W_seq ?_
      refine W_region ?_
      refine L_loadW rfl rfl (by first | exact RdC.blk (by repeat (first | exact List.Mem.head _ | apply List.Mem.tail))) (by exact agg41) ?_
      refine L_storeW rfl rfl (by repeat (first | exact Pick.here _ | apply Pick.there)) (by exact agg41) (by rfl) (by first | (simp [Value.oneCell', TL.hdr]; done) | exact fun v hv => GT.one _ v hv) ?_
      refine L_assign rfl rfl ?_
      refine L_assign rfl rfl ?_
      refine L_nil ?_
      refine W_ret ?_
      -- return 2 (R5)
      refine res3 rfl (ResOK.cell rfl (by repeat (first | exact List.Mem.head _ | apply List.Mem.tail)) (by exact agg41)) (ResOK.tmp rfl) (ResOK.tmp rfl) ⟨((n1, n2, (⟨n3, nc, 75, nx, nt⟩ : TL T_Sess)) : T_Desks), ?_, ?_, rfl⟩ (MSub.cons (by repeat (first | exact Pick.here _ | apply Pick.there)) (MSub.nil _))
      all_goals
        unfold sessOpenD
        rw [if_pos hokk, if_neg hg]
        first | rfl | (simp only [dat_pair, dat_int, dat_TL, hnx])
    · skip
      have hg : goodO (GT.dat ((n1, n2, ⟨a3, c3, e3, x1, y1⟩) : T_Desks)) c wt := by
        simp [-not_and] at hc4
        refine ⟨?_, ?_, ?_, ?_⟩
        · omega
        · omega
        · simp only [dat_pair, dat_TL, List.length_map]; omega
        · simp only [dat_pair, dat_int]; omega
      have hg1 := hg.1
      have hg2 := hg.2.1
      have hg4 := hg.2.2.2
      simp only [dat_pair, dat_int] at hg4
      have hpg := pB_true hg
      refine W_skip ?_
      refine W_seq ?_
      refine W_conv (M' := treeH (⟨n3, nc, 75, nx, nt⟩ : TL T_Sess) :: _) (fun w h => frontPick (x := treeH (⟨n3, nc, 75, nx, nt⟩ : TL T_Sess)) (Pick.there _ (Pick.there _ (Pick.here _))) (tree_pair2 (frontPick (x := treeH ((n1, n2, (⟨n3, nc, 75, nx, nt⟩ : TL T_Sess)) : T_Desks)) (by repeat (first | exact Pick.here _ | apply Pick.there)) h))) ?_
      refine W_region ?_
      refine L_fieldAddr rfl rfl fld41_2 ?_
      refine L_load rfl rfl (by first | exact RdC.blk (by repeat (first | exact List.Mem.head _ | apply List.Mem.tail))) one39 rfl ?_
      refine L_fieldAddr rfl rfl fld41_1 ?_
      refine L_load rfl rfl (by first | exact RdC.blk (by repeat (first | exact List.Mem.head _ | apply List.Mem.tail))) one3 rfl ?_
      refine L_move rfl rfl ?_
      refine L_fieldAddr rfl rfl fld41_0 ?_
      refine L_load rfl rfl (by first | exact RdC.blk (by repeat (first | exact List.Mem.head _ | apply List.Mem.tail))) one3 rfl ?_
      refine L_move rfl rfl ?_
      refine L_binV rfl rfl rfl (bv_addR (by unfold inR; omega)) ?_
      refine L_build (xs := [(0, .tmp 39), (1, .tmp 40), (2, .tmp 44)]) (cs := [.int .i64 n2, .int .i64 c, .int .i64 (n1 + wt), .slice none 0 0]) rfl rfl bld75 rfl ?_
      refine L_buildSlice1 rfl rfl el39 rfl (by decide) (by decide) rfl (fun bb => ?_)
      refine L_append1F ((n2, c, n1 + wt, TL.nil ByteArray 0) : T_Sess) rfl rfl rfl el39 rfl rfl (by repeat (first | exact Pick.here _ | apply Pick.there)) rfl (.inl rfl) (T' := 75) (by repeat (first | exact List.Mem.head _ | apply List.Mem.tail)) (flat_pair (flat_int h1.2.1) (flat_pair (flat_int (by unfold inR; omega)) (flat_pair (flat_int (by unfold inR; omega)) (flat_nil 0)))) (by (try dsimp only); omega) (by decide) (fun a' c' tl' => ?_)
      refine L_fieldAddr rfl rfl fld41_2 ?_
      refine L_store rfl rfl (by repeat (first | exact Pick.here _ | apply Pick.there)) one39 rfl rfl ?_
      refine L_nil ?_
      refine W_seq ?_
      refine W_region ?_
      refine L_fieldAddr rfl rfl fld41_1 ?_
      refine L_load rfl rfl (by first | exact RdC.blk (by repeat (first | exact List.Mem.head _ | apply List.Mem.tail))) one3 rfl ?_
      refine L_binV rfl rfl rfl (bv_addR (by unfold inR; omega)) ?_
      refine L_fieldAddr rfl rfl fld41_1 ?_
      refine L_store rfl rfl (by repeat (first | exact Pick.here _ | apply Pick.there)) one3 rfl rfl ?_
      refine L_nil ?_
      refine W_seq ?_
      refine W_DS (pre := [_, _, _, _, _, _]) (suf := []) [7, 8] [blk bk6 [.int .i64 0, .int .i64 0, .slice none 0 0] 41] _ (perm_cons (by repeat (first | exact Pick.here _ | apply Pick.there)) (perm_nil_left _)) mix (by kernel_rfl) (by kernel_rfl) rfl ?_
      refine D_loadW GC.none (OpV.t rfl) (fun hg => (by first | exact RdC.blk (by repeat (first | exact List.Mem.head _ | apply List.Mem.tail)))) (by exact agg41) ?_
      refine D_fieldAddr GC.none (OpV.t rfl) fld41_1 ?_
      refine D_load GC.none (OpV.t rfl) (fun hg => (by first | exact RdC.blk (by repeat (first | exact List.Mem.head _ | apply List.Mem.tail)))) one3 rfl ?_
      refine D_storeW (OpV.t rfl) (OpV.t rfl) (Pick.here _) (by exact agg41) (by rfl) (by first | (simp [Value.oneCell', TL.hdr]; done) | exact fun v hv => GT.one _ v hv) ?_
      refine D_assign GC.none (OpV.t rfl) ?_
      refine D_assign GC.none OpV.c ?_
      refine DV_nil ?_
      refine Give_is rfl rfl ?_
      refine Give_is rfl rfl ?_
      refine Give_st ?_
      refine Give_drop rfl ?_
      refine Give_drop rfl ?_
      refine Give_drop rfl ?_
      refine Give_nil ?_
      refine L_nil ?_
      refine W_conv (M' := treeH ((n1, n2 + 1, (⟨a', c', 75, nx ++ [((n2, c, n1 + wt, TL.nil ByteArray 0) : T_Sess)], tl'⟩ : TL T_Sess)) : T_Desks) :: _) (fun w h => pairFlat (flat_int h1.1) (pairFlat (flat_int (by unfold inR; omega)) (frontPick (x := treeH (⟨a', c', 75, nx ++ [((n2, c, n1 + wt, TL.nil ByteArray 0) : T_Sess)], tl'⟩ : TL T_Sess)) (by repeat (first | exact Pick.here _ | apply Pick.there)) h))) ?_
      refine W_ret ?_
      -- return 3 (R8)
      refine res3 rfl (ResOK.cell rfl (by repeat (first | exact List.Mem.head _ | apply List.Mem.tail)) (by exact agg41)) (ResOK.tmp rfl) (ResOK.tmp rfl) ⟨((n1, n2 + 1, (⟨a', c', 75, nx ++ [((n2, c, n1 + wt, TL.nil ByteArray 0) : T_Sess)], tl'⟩ : TL T_Sess)) : T_Desks), ?_, ?_, rfl⟩ (MSub.cons (by repeat (first | exact Pick.here _ | apply Pick.there)) (MSub.nil _))
      all_goals
        unfold sessOpenD
        rw [if_pos hokk, if_pos hpg]
        first | rfl | (simp only [dat_pair, dat_int, dat_TL, List.map_append, hnx]; rfl)

theorem iSessOpen_spec (w : World) (t1 : T_Desks) (c wt : Int) (h1 : GT.rd w [] t1) (hb : Bk.bulk t1 ≤ 1048576) : Spec Try.prog 33 [.agg (GT.cells t1).toArray, .int .i64 c, .int .i64 wt].toArray w [] (fun v M => ∃ r : T_Desks, v = .tuple #[.agg (GT.cells r).toArray, .int .i64 (sessOpenD (GT.dat t1) c wt).2.1, .bool (sessOpenD (GT.dat t1) c wt).2.2] ∧ GT.dat r = (sessOpenD (GT.dat t1) c wt).1 ∧ M = [treeH r]) := by
  obtain ⟨a1, a2, ⟨a3, c3, e3, x1, y1⟩⟩ := t1
  have hm1 : x1.length ≤ 9223372036854775807 := rd_len h1.2.2
  change Spec _ _ [Value.agg #[.int .i64 a1, .int .i64 a2, TL.hdr ⟨a3, c3, e3, x1, y1⟩], .int .i64 c, .int .i64 wt].toArray w [] _
  refine Spec.intro Try.func33 rfl Try.ntmps33 rfl ?_
  refine W_seq ?_
  refine W_region ?_
  refine L_box rfl rfl (fun bk3 => ?_)
  refine L_alloc rfl zero41 (fun bk6 => ?_)
  refine L_assign rfl rfl ?_
  refine L_assign rfl rfl ?_
  refine L_nil ?_
  refine W_seq ?_
  refine W_seq ?_
  refine W_region ?_
  refine L_loadW rfl rfl (by first | exact RdC.blk (by repeat (first | exact List.Mem.head _ | apply List.Mem.tail))) (by exact agg41) ?_
  refine L_callX rfl fn19 rfl (by exact fun w hw => iDesksOk_spec w ((a1, a2, ⟨a3, c3, e3, x1, y1⟩) : T_Desks) (rd_carry h1 hw)) ?_
  refine L_not rfl rfl ?_
  refine L_nil ?_
  refine W_weaken (l' := [(1, _), (2, _), (3, _), (6, _), (12, _)]) (Sub.cons rfl (Sub.cons rfl (Sub.cons rfl (Sub.cons rfl (Sub.cons rfl (Sub.nil _)))))) (MSub.refl _) ?_
  refine W_cond rfl (fun hc1 => ?_) (fun hc1 => ?_)
  · skip
    refine W_seq ?_
    refine W_region ?_
    refine L_build (xs := []) (cs := [.int .i64 0, .int .i64 0, .slice none 0 0]) rfl rfl bld41 rfl ?_
    refine L_storeW rfl rfl (by repeat (first | exact Pick.here _ | apply Pick.there)) (by exact agg41) (by rfl) (by first | (simp [Value.oneCell', TL.hdr]; done) | exact fun v hv => GT.one _ v hv) ?_
    refine L_assign rfl rfl ?_
    refine L_assign rfl rfl ?_
    refine L_nil ?_
    refine W_conv (M' := treeH ((0, 0, TL.nil T_Sess 0) : T_Desks) :: _) (fun w h => h.addFlat (flat_pair (flat_int (by unfold inR; omega)) (flat_pair (flat_int (by unfold inR; omega)) (flat_nil 0)))) ?_
    refine W_ret ?_
    -- return 1 (R2)
    refine res3 rfl (ResOK.cell rfl (by repeat (first | exact List.Mem.head _ | apply List.Mem.tail)) (by exact agg41)) (ResOK.tmp rfl) (ResOK.tmp rfl) ⟨((0, 0, TL.nil T_Sess 0) : T_Desks), ?_, ?_, rfl⟩ (MSub.cons (by repeat (first | exact Pick.here _ | apply Pick.there)) (MSub.nil _))
    all_goals
      have hok : ¬ pB (okD (GT.dat ((a1, a2, ⟨a3, c3, e3, x1, y1⟩) : T_Desks))) = true := by simpa using hc1
      unfold sessOpenD
      rw [if_neg hok]
      try rfl
  · skip
    have hokk : pB (okD (GT.dat ((a1, a2, ⟨a3, c3, e3, x1, y1⟩) : T_Desks))) = true := by simpa using hc1
    have hokd := pB_iff.1 hokk
    obtain ⟨hq1, hq2, hq3, _⟩ := hokd
    simp only [dat_pair, dat_int, dat_TL, List.length_map] at hq1 hq2 hq3
    refine W_skip ?_
    refine W_seq ?_
    refine W_region ?_
    refine L_loadW rfl rfl (by first | exact RdC.blk (by repeat (first | exact List.Mem.head _ | apply List.Mem.tail))) (by exact agg41) ?_
    refine L_callR rfl fn57 rfl (by exact fun w hw => copyDesks_spec w ((a1, a2, ⟨a3, c3, e3, x1, y1⟩) : T_Desks) (rd_carry h1 hw) hb) ?_
    rintro v M1 ⟨⟨n1, n2, ⟨n3, nc, ne, nx, nt⟩⟩, hv, hd, he, rfl⟩
    subst hv
    replace he : ne = 75 := he
    subst he
    simp only [dat_pair, dat_int, dat_TL, Prod.mk.injEq] at hd
    obtain ⟨hd1, hd2, hnx⟩ := hd
    subst hd1; subst hd2
    have hnl : nx.length = x1.length := by simpa using congrArg List.length hnx
    simp only [List.cons_append, List.nil_append]
    rw [show GT.cells ((n1, n2, (⟨n3, nc, 75, nx, nt⟩ : TL T_Sess)) : T_Desks) = [.int .i64 n1, .int .i64 n2, .slice n3 nx.length nc] from rfl]
    refine L_alloc rfl zero41 (fun bk9 => ?_)
    refine L_storeW rfl rfl (by repeat (first | exact Pick.here _ | apply Pick.there)) (by exact agg41) (by rfl) (by first | (simp [Value.oneCell', TL.hdr]; done) | exact fun v hv => GT.one _ v hv) ?_
    refine L_nil ?_
    refine W_seq ?_
    refine W_seq ?_
    refine W_D0 [34] mix (by kernel_rfl) rfl ?_
    refine D_move GC.none (OpV.t rfl) ?_
    refine D_callX GC.none fn46 (OpVs.cons (OpV.t rfl) (OpVs.nil)) (by exact fun hg w F hF hM => (fun w hw => isClient_spec w _) w hF) ?_
    refine D_not GC.none (OpV.t rfl) ?_
    refine D_move GC.none (OpV.t rfl) ?_
    refine D_move (GC.some rfl rfl) (OpV.t rfl) ?_
    refine D_callX (GC.some rfl rfl) fn45 (OpVs.cons (OpV.s rfl) (OpVs.cons OpV.c (OpVs.cons OpV.c (OpVs.nil)))) (by exact fun hg w F hF hM => (fun w hw => within_spec w _ _ _) w hF) ?_
    refine D_not (GC.some rfl rfl) (OpV.s rfl) ?_
    refine D_or (cy := _) GC.none (OpV.t rfl) (OpV.s rfl) (fun h hb => ⟨h, hb⟩) ?_
    refine D_move GC.none (OpV.t rfl) ?_
    refine D_fieldAddr (GC.some rfl rfl) (OpV.t rfl) fld41_2 ?_
    refine D_load (GC.some rfl rfl) (OpV.s rfl) (fun hg => (by first | exact RdC.blk (by repeat (first | exact List.Mem.head _ | apply List.Mem.tail)))) one39 rfl ?_
    refine D_lenS (GC.some rfl rfl) (OpV.s rfl) el39 ?_
    refine D_bin (GC.some rfl rfl) (OpV.s rfl) OpV.c (fun hg => bv_eql) ?_
    refine D_or (cy := _) GC.none (OpV.t rfl) (OpV.s rfl) (fun h hb => ⟨h, hb⟩) ?_
    refine D_move GC.none (OpV.t rfl) ?_
    refine D_fieldAddr (GC.some rfl rfl) (OpV.t rfl) fld41_1 ?_
    refine D_load (GC.some rfl rfl) (OpV.s rfl) (fun hg => (by first | exact RdC.blk (by repeat (first | exact List.Mem.head _ | apply List.Mem.tail)))) one3 rfl ?_
    refine D_bin (GC.some rfl rfl) (OpV.s rfl) OpV.c (fun hg => bv_eql) ?_
    refine D_or (cy := _) GC.none (OpV.t rfl) (OpV.s rfl) (fun h hb => ⟨h, hb⟩) ?_
    refine DV_nil ?_
    refine Give_is rfl rfl ?_
    refine Give_drop rfl ?_
    refine Give_drop rfl ?_
    refine Give_drop rfl ?_
    refine Give_drop rfl ?_
    refine Give_drop rfl ?_
    refine Give_drop rfl ?_
    refine Give_drop rfl ?_
    refine Give_drop rfl ?_
    refine Give_drop rfl ?_
    refine Give_drop rfl ?_
    refine Give_drop rfl ?_
    refine Give_drop rfl ?_
    refine Give_drop rfl ?_
    refine Give_drop rfl ?_
    refine Give_drop rfl ?_
    refine Give_drop rfl ?_
    refine Give_drop rfl ?_
    refine Give_drop rfl ?_
    refine Give_nil ?_
    refine W_weaken (l' := [(1, _), (2, _), (3, _), (6, _), (9, _), (34, _)]) (Sub.cons rfl (Sub.cons rfl (Sub.cons rfl (Sub.cons rfl (Sub.cons rfl (Sub.cons rfl (Sub.nil _))))))) (MSub.refl _) ?_
    refine W_cond rfl (fun hc4 => ?_) (fun hc4 => ?_)
    · skip
      have hg : ¬ pB (goodO (GT.dat ((n1, n2, ⟨a3, c3, e3, x1, y1⟩) : T_Desks)) c wt) = true := by
        intro h
        have hg := pB_iff.1 h
        unfold goodO at hg
        simp only [dat_pair, dat_int, dat_TL, List.length_map] at hg
        obtain ⟨e1, e2, e3, e4⟩ := hg
        simp [e1, e2] at hc4 <;> omega
      refine W_seq ?_
      refine W_region ?_
      refine L_loadW rfl rfl (by first | exact RdC.blk (by repeat (first | exact List.Mem.head _ | apply List.Mem.tail))) (by exact agg41) ?_
      refine L_storeW rfl rfl (by repeat (first | exact Pick.here _ | apply Pick.there)) (by exact agg41) (by rfl) (by first | (simp [Value.oneCell', TL.hdr]; done) | exact fun v hv => GT.one _ v hv) ?_
      refine L_assign rfl rfl ?_
      refine L_assign rfl rfl ?_
      refine L_nil ?_
      refine W_ret ?_
      -- return 2 (R5)
      refine res3 rfl (ResOK.cell rfl (by repeat (first | exact List.Mem.head _ | apply List.Mem.tail)) (by exact agg41)) (ResOK.tmp rfl) (ResOK.tmp rfl) ⟨((n1, n2, (⟨n3, nc, 75, nx, nt⟩ : TL T_Sess)) : T_Desks), ?_, ?_, rfl⟩ (MSub.cons (by repeat (first | exact Pick.here _ | apply Pick.there)) (MSub.nil _))
      all_goals
        unfold sessOpenD
        rw [if_pos hokk, if_neg hg]
        first | rfl | (simp only [dat_pair, dat_int, dat_TL, hnx])
    · skip
      have hg : goodO (GT.dat ((n1, n2, ⟨a3, c3, e3, x1, y1⟩) : T_Desks)) c wt := by
        simp [-not_and] at hc4
        refine ⟨?_, ?_, ?_, ?_⟩
        · omega
        · omega
        · simp only [dat_pair, dat_TL, List.length_map]; omega
        · simp only [dat_pair, dat_int]; omega
      have hg1 := hg.1
      have hg2 := hg.2.1
      have hg4 := hg.2.2.2
      simp only [dat_pair, dat_int] at hg4
      have hpg := pB_true hg
      refine W_skip ?_
      refine W_seq ?_
      refine W_conv (M' := treeH (⟨n3, nc, 75, nx, nt⟩ : TL T_Sess) :: _) (fun w h => frontPick (x := treeH (⟨n3, nc, 75, nx, nt⟩ : TL T_Sess)) (Pick.there _ (Pick.there _ (Pick.here _))) (tree_pair2 (frontPick (x := treeH ((n1, n2, (⟨n3, nc, 75, nx, nt⟩ : TL T_Sess)) : T_Desks)) (by repeat (first | exact Pick.here _ | apply Pick.there)) h))) ?_
      refine W_region ?_
      refine L_fieldAddr rfl rfl fld41_2 ?_
      refine L_load rfl rfl (by first | exact RdC.blk (by repeat (first | exact List.Mem.head _ | apply List.Mem.tail))) one39 rfl ?_
      refine L_fieldAddr rfl rfl fld41_1 ?_
      refine L_load rfl rfl (by first | exact RdC.blk (by repeat (first | exact List.Mem.head _ | apply List.Mem.tail))) one3 rfl ?_
      refine L_move rfl rfl ?_
      refine L_fieldAddr rfl rfl fld41_0 ?_
      refine L_load rfl rfl (by first | exact RdC.blk (by repeat (first | exact List.Mem.head _ | apply List.Mem.tail))) one3 rfl ?_
      refine L_move rfl rfl ?_
      refine L_binV rfl rfl rfl (bv_addR (by unfold inR; omega)) ?_
      refine L_build (xs := [(0, .tmp 39), (1, .tmp 40), (2, .tmp 44)]) (cs := [.int .i64 n2, .int .i64 c, .int .i64 (n1 + wt), .slice none 0 0]) rfl rfl bld75 rfl ?_
      refine L_buildSlice1 rfl rfl el39 rfl (by decide) (by decide) rfl (fun bb => ?_)
      refine L_append1F ((n2, c, n1 + wt, TL.nil ByteArray 0) : T_Sess) rfl rfl rfl el39 rfl rfl (by repeat (first | exact Pick.here _ | apply Pick.there)) rfl (.inl rfl) (T' := 75) (by repeat (first | exact List.Mem.head _ | apply List.Mem.tail)) (flat_pair (flat_int h1.2.1) (flat_pair (flat_int (by unfold inR; omega)) (flat_pair (flat_int (by unfold inR; omega)) (flat_nil 0)))) (by (try dsimp only); omega) (by decide) (fun a' c' tl' => ?_)
      refine L_fieldAddr rfl rfl fld41_2 ?_
      refine L_store rfl rfl (by repeat (first | exact Pick.here _ | apply Pick.there)) one39 rfl rfl ?_
      refine L_nil ?_
      refine W_seq ?_
      refine W_region ?_
      refine L_fieldAddr rfl rfl fld41_1 ?_
      refine L_load rfl rfl (by first | exact RdC.blk (by repeat (first | exact List.Mem.head _ | apply List.Mem.tail))) one3 rfl ?_
      refine L_binV rfl rfl rfl (bv_addR (by unfold inR; omega)) ?_
      refine L_fieldAddr rfl rfl fld41_1 ?_
      refine L_store rfl rfl (by repeat (first | exact Pick.here _ | apply Pick.there)) one3 rfl rfl ?_
      refine L_nil ?_
      refine W_seq ?_
      refine W_DS (pre := [_, _, _, _, _, _]) (suf := []) [7, 8] [blk bk6 [.int .i64 0, .int .i64 0, .slice none 0 0] 41] _ (perm_cons (by repeat (first | exact Pick.here _ | apply Pick.there)) (perm_nil_left _)) mix (by kernel_rfl) (by kernel_rfl) rfl ?_
      refine D_loadW GC.none (OpV.t rfl) (fun hg => (by first | exact RdC.blk (by repeat (first | exact List.Mem.head _ | apply List.Mem.tail)))) (by exact agg41) ?_
      refine D_fieldAddr GC.none (OpV.t rfl) fld41_1 ?_
      refine D_load GC.none (OpV.t rfl) (fun hg => (by first | exact RdC.blk (by repeat (first | exact List.Mem.head _ | apply List.Mem.tail)))) one3 rfl ?_
      refine D_storeW (OpV.t rfl) (OpV.t rfl) (Pick.here _) (by exact agg41) (by rfl) (by first | (simp [Value.oneCell', TL.hdr]; done) | exact fun v hv => GT.one _ v hv) ?_
      refine D_assign GC.none (OpV.t rfl) ?_
      refine D_assign GC.none OpV.c ?_
      refine DV_nil ?_
      refine Give_is rfl rfl ?_
      refine Give_is rfl rfl ?_
      refine Give_st ?_
      refine Give_drop rfl ?_
      refine Give_drop rfl ?_
      refine Give_drop rfl ?_
      refine Give_nil ?_
      refine L_nil ?_
      refine W_conv (M' := treeH ((n1, n2 + 1, (⟨a', c', 75, nx ++ [((n2, c, n1 + wt, TL.nil ByteArray 0) : T_Sess)], tl'⟩ : TL T_Sess)) : T_Desks) :: _) (fun w h => pairFlat (flat_int h1.1) (pairFlat (flat_int (by unfold inR; omega)) (frontPick (x := treeH (⟨a', c', 75, nx ++ [((n2, c, n1 + wt, TL.nil ByteArray 0) : T_Sess)], tl'⟩ : TL T_Sess)) (by repeat (first | exact Pick.here _ | apply Pick.there)) h))) ?_
      refine W_ret ?_
      -- return 3 (R8)
      refine res3 rfl (ResOK.cell rfl (by repeat (first | exact List.Mem.head _ | apply List.Mem.tail)) (by exact agg41)) (ResOK.tmp rfl) (ResOK.tmp rfl) ⟨((n1, n2 + 1, (⟨a', c', 75, nx ++ [((n2, c, n1 + wt, TL.nil ByteArray 0) : T_Sess)], tl'⟩ : TL T_Sess)) : T_Desks), ?_, ?_, rfl⟩ (MSub.cons (by repeat (first | exact Pick.here _ | apply Pick.there)) (MSub.nil _))
      all_goals
        unfold sessOpenD
        rw [if_pos hokk, if_pos hpg]
        first | rfl | (simp only [dat_pair, dat_int, dat_TL, List.map_append, hnx]; rfl)

end Go.Proofs.SL
