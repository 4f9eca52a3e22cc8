import Derived.Test.YtfcbkchggigoeaaT9
import Derived.Test.YtfcbkchggigoeaaBaseE
namespace Go.Proofs.SL
open Go
theorem bld41 : bldOf Try.prog 41 = some ([(0, 1), (1, 1), (2, 1)], [.int .i64 0, .int .i64 0, .slice none 0 0]) := by kernel_rfl
theorem fn70 : IsFn Try.prog 70 := ⟨_, Try.func70, by kernel_rfl, rfl⟩
theorem copyTexts_spec (w : World) (t1 : TL ByteArray) (h1 : GT.rd w [] t1) (hl : t1.els.length ≤ 4294967296) : Spec Try.prog 70 [t1.hdr].toArray w [] (fun v M => ∃ t2 : TL ByteArray, v = t2.hdr ∧ t2.els = t1.els ∧ M = [treeH t2]) := by
  refine Spec.intro Try.func70 rfl Try.ntmps70 rfl ?_
  refine W_seq ?_
  refine W_region ?_
  refine L_assign rfl rfl ?_
  refine L_nil ?_
  refine W_seq ?_
  refine W_conv (addNil (τ := ByteArray) 9) ?_
  refine W_region ?_
  refine L_move rfl rfl ?_
  refine L_appendT (Lg := none) (Le := 9) t1 rfl rfl rfl el73 rfl rfl (by repeat (first | exact Pick.here _ | apply Pick.there)) rfl (.inl rfl) (RdT.old h1) (fun y hy => flat_str (h1.2.2.1 y hy)) (by show 0 + _ ≤ _; omega) (by decide) (fun a' c' tl' => ?_)
  simp only [List.nil_append]
  refine L_assign rfl rfl ?_
  refine L_nil ?_
  refine W_ret ?_
  -- return 1 (R1)
  refine res1 rfl (ResOK.tmp rfl) ⟨⟨a', c', 9, t1.els, tl'⟩, rfl, rfl, rfl⟩ (MSub.cons (by repeat (first | exact Pick.here _ | apply Pick.there)) (MSub.nil _))

theorem copyDesks_spec (w : World) (t1 : T_Desks) (h1 : GT.rd w [] t1) (hb : Bk.bulk t1 ≤ 1048576) : Spec Try.prog 57 [.agg (GT.cells t1).toArray].toArray w [] (fun v M => ∃ t2 : T_Desks, v = .agg (GT.cells t2).toArray ∧ GT.dat t2 = GT.dat t1 ∧ t2.2.2.e = 75 ∧ M = [treeH t2]) := by
  obtain ⟨a1, a2, ⟨a3, c3, e3, x1, y1⟩⟩ := t1
  have hm1 : x1.length ≤ 9223372036854775807 := rd_len h1.2.2
  have hbx : x1.length + bulks x1 ≤ 1048576 := by simp only [bulk_pair, bulk_TL, bulk_int] at hb; omega
  change Spec _ _ [Value.agg #[.int .i64 a1, .int .i64 a2, TL.hdr ⟨a3, c3, e3, x1, y1⟩]].toArray w [] _
  refine Spec.intro Try.func57 rfl Try.ntmps57 rfl ?_
  refine W_seq ?_
  refine W_region ?_
  refine L_box rfl rfl (fun bk1 => ?_)
  refine L_alloc rfl zero41 (fun bk2 => ?_)
  refine L_nil ?_
  refine W_seq ?_
  refine W_region ?_
  refine L_fieldAddr rfl rfl fld41_0 ?_
  refine L_load rfl rfl (by first | exact RdC.blk (by repeat (first | exact List.Mem.head _ | apply List.Mem.tail)) | exact RdC.old (Cells.el h1.2.2 rfl hu)) one3 rfl ?_
  refine L_fieldAddr rfl rfl fld41_1 ?_
  refine L_load rfl rfl (by first | exact RdC.blk (by repeat (first | exact List.Mem.head _ | apply List.Mem.tail)) | exact RdC.old (Cells.el h1.2.2 rfl hu)) one3 rfl ?_
  refine L_build (xs := [(0, .tmp 7), (1, .tmp 9)]) (cs := [.int .i64 a1, .int .i64 a2, .slice none 0 0]) rfl rfl bld41 rfl ?_
  refine L_alloc rfl zero41 (fun bk3 => ?_)
  refine L_storeW rfl rfl (by repeat (first | exact Pick.here _ | apply Pick.there)) (by exact agg41) (by rfl) (by first | (simp [Value.oneCell', TL.hdr]; done) | exact fun v hv => GT.one _ v hv) ?_
  refine L_nil ?_
  refine W_seq ?_
  refine W_seq ?_
  refine W_region ?_
  refine L_fieldAddr rfl rfl fld41_2 ?_
  refine L_load rfl rfl (by first | exact RdC.blk (by repeat (first | exact List.Mem.head _ | apply List.Mem.tail)) | exact RdC.old (Cells.el h1.2.2 rfl hu)) one39 rfl ?_
  refine L_lenS rfl rfl el39 ?_
  refine L_move rfl rfl ?_
  refine L_nil ?_
  refine W_block ?_
  refine W_conv (addNil (τ := T_Sess) 75) ?_
  refine W_loopC (σ := Nat × Option Addr × Nat × List Value × List T_Sess) (0, none, 0, [], []) (fun (p : Nat × Option Addr × Nat × List Value × List T_Sess) => [(14, .int .i64 (p.1 : Int))]) (fun (p : Nat × Option Addr × Nat × List Value × List T_Sess) => [treeH (⟨p.2.1, p.2.2.1, 75, p.2.2.2.2, p.2.2.2.1⟩ : TL T_Sess), blk bk3 [.int .i64 a1, .int .i64 a2, .slice p.2.1 p.2.2.2.2.length p.2.2.1] 41]) (fun (p : Nat × Option Addr × Nat × List Value × List T_Sess) => p.1 ≤ x1.length ∧ p.2.2.2.2.length = p.1 ∧ p.2.2.2.2.map GT.dat = (x1.take p.1).map GT.dat) (fun (p : Nat × Option Addr × Nat × List Value × List T_Sess) => x1.length - p.1) [(2, _), (3, _), (12, _), (13, _)] [_, _] ?_ (Sub.cons rfl (Sub.cons rfl (Sub.cons rfl (Sub.cons rfl (Sub.cons rfl (Sub.nil _)))))) (MSub.cons (by repeat (first | exact Pick.here _ | apply Pick.there)) (MSub.cons (by repeat (first | exact Pick.here _ | apply Pick.there)) (MSub.cons (by repeat (first | exact Pick.here _ | apply Pick.there)) (MSub.cons (by repeat (first | exact Pick.here _ | apply Pick.there)) (MSub.nil _))))) ?_
  · skip
    exact ⟨Nat.zero_le _, rfl, rfl⟩
  · skip
    rintro ⟨k, ag, ac, atl, cur⟩ ⟨hk, hlen, hdat⟩
    dsimp only at hk hlen hdat
    refine W_weaken (l' := [(2, _), (3, _), (12, _), (13, _), (14, _)]) (Sub.cons rfl (Sub.cons rfl (Sub.cons rfl (Sub.cons rfl (Sub.cons rfl (Sub.nil _)))))) (M' := [_, _, _, _]) (MSub.cons (by repeat (first | exact Pick.here _ | apply Pick.there)) (MSub.cons (by repeat (first | exact Pick.here _ | apply Pick.there)) (MSub.cons (by repeat (first | exact Pick.here _ | apply Pick.there)) (MSub.cons (by repeat (first | exact Pick.here _ | apply Pick.there)) (MSub.nil _))))) ?_
    refine W_seq ?_
    refine W_region ?_
    refine L_binV rfl rfl rfl bv_lss ?_
    refine L_nil ?_
    refine W_seq ?_
    refine W_weaken (l' := [(2, _), (3, _), (12, _), (13, _), (14, _), (15, _)]) (Sub.cons rfl (Sub.cons rfl (Sub.cons rfl (Sub.cons rfl (Sub.cons rfl (Sub.cons rfl (Sub.nil _))))))) (MSub.refl _) ?_
    refine W_cond rfl (fun hc3 => ?_) (fun hc3 => ?_)
    · skip
      have hk1 : k < x1.length := by simpa using hc3
      obtain ⟨g1, o1, rfl⟩ := rd_addr h1.2.2 hk1
      obtain ⟨u, hu⟩ := getEl hk1
      have hru : GT.rd w [] u := h1.2.2.2.2.1 _ (List.mem_of_getElem? hu)
      have hbu : Bk.bulk u ≤ 1048576 := by have := bulk_mem (List.mem_of_getElem? hu); omega
      obtain ⟨b1, b2, b3, ⟨b4, c4, e4, x4, y4⟩⟩ := u
      have hm4 : x4.length ≤ 1048576 := by simp only [bulk_pair, bulk_TL, bulk_int] at hbu; omega
      refine W_skip ?_
      refine W_seq ?_
      refine W_block ?_
      refine W_seq ?_
      refine W_region ?_
      refine L_indexAddr rfl rfl rfl el39 rfl (by omega) ?_
      refine L_loadW rfl rfl (by first | exact RdC.blk (by repeat (first | exact List.Mem.head _ | apply List.Mem.tail)) | exact RdC.old (Cells.el h1.2.2 rfl hu)) (by exact agg75) ?_
      refine L_alloc rfl zero75 (fun bk5 => ?_)
      refine L_storeW rfl rfl (by repeat (first | exact Pick.here _ | apply Pick.there)) (by exact agg75) (by rfl) (by first | (simp [Value.oneCell', TL.hdr]; done) | exact fun v hv => GT.one _ v hv) ?_
      refine L_nil ?_
      refine W_seq ?_
      refine W_region ?_
      refine L_fieldAddr rfl rfl fld75_3 ?_
      refine L_load rfl rfl (by first | exact RdC.blk (by repeat (first | exact List.Mem.head _ | apply List.Mem.tail)) | exact RdC.old (Cells.el h1.2.2 rfl hu)) one73 rfl ?_
      refine L_callR rfl fn70 rfl (by exact fun w hw => copyTexts_spec w ⟨b4, c4, e4, x4, y4⟩ (rd_carry hru.2.2.2 hw) (by show x4.length ≤ _; omega)) ?_
      rintro v M1 ⟨⟨a', c', e', x', tl'⟩, hv, hx, rfl⟩
      subst hv
      replace hx : x' = x4 := hx
      subst hx
      simp only [List.cons_append, List.nil_append]
      refine L_fieldAddr rfl rfl fld75_3 ?_
      refine L_store rfl rfl (by repeat (first | exact Pick.here _ | apply Pick.there)) one73 rfl rfl ?_
      refine L_nil ?_
      refine W_region ?_
      refine L_fieldAddr rfl rfl fld41_2 ?_
      refine L_load rfl rfl (by first | exact RdC.blk (by repeat (first | exact List.Mem.head _ | apply List.Mem.tail)) | exact RdC.old (Cells.el h1.2.2 rfl hu)) one39 rfl ?_
      refine L_loadW rfl rfl (by first | exact RdC.blk (by repeat (first | exact List.Mem.head _ | apply List.Mem.tail)) | exact RdC.old (Cells.el h1.2.2 rfl hu)) (by exact agg75) ?_
      refine L_buildSlice1 rfl rfl el39 rfl (by decide) (by decide) rfl (fun bb => ?_)
      refine L_conv (M' := treeH (((b1, b2, b3, (⟨a', c', e', x', tl'⟩ : TL ByteArray))) : T_Sess) :: _) (fun w h => pairFlat (flat_int hru.1) (pairFlat (flat_int hru.2.1) (pairFlat (flat_int hru.2.2.1) (frontPick (x := treeH (⟨a', c', e', x', tl'⟩ : TL ByteArray)) (by repeat (first | exact Pick.here _ | apply Pick.there)) h)))) ?_
      refine L_append1 (((b1, b2, b3, (⟨a', c', e', x', tl'⟩ : TL ByteArray))) : T_Sess) rfl rfl rfl el39 rfl rfl (by repeat (first | exact Pick.here _ | apply Pick.there)) rfl (.inl rfl) (T' := 75) (by repeat (first | exact List.Mem.head _ | apply List.Mem.tail)) (Pick.here _) (by (try dsimp only); omega) (by decide) (fun a2' c2' tl2' => ?_)
      refine L_fieldAddr rfl rfl fld41_2 ?_
      refine L_store rfl rfl (by repeat (first | exact Pick.here _ | apply Pick.there)) one39 rfl rfl ?_
      refine L_nil ?_
      refine W_region ?_
      refine L_binV rfl rfl rfl (bv_addR (by unfold inR; omega)) ?_
      refine L_move rfl rfl ?_
      refine L_nil ?_
      refine ⟨(k + 1, a2', c2', tl2', cur ++ [((b1, b2, b3, (⟨a', c', e', x', tl'⟩ : TL ByteArray)) : T_Sess)]), (Sub.cons rfl (Sub.cons rfl (Sub.cons rfl (Sub.cons rfl (Sub.cons rfl (Sub.nil _)))))), (MSub.cons (by repeat (first | exact Pick.here _ | apply Pick.there)) (MSub.cons (by repeat (first | exact Pick.here _ | apply Pick.there)) (MSub.cons (by repeat (first | exact Pick.here _ | apply Pick.there)) (MSub.cons (by repeat (first | exact Pick.here _ | apply Pick.there)) (MSub.nil _))))), ?_, ?_⟩
      · skip
        refine ⟨by show k + 1 ≤ x1.length; omega, by show (cur ++ [_]).length = k + 1; rw [List.length_append]; show cur.length + 1 = k + 1; omega, ?_⟩
        show (cur ++ [_]).map GT.dat = (x1.take (k + 1)).map GT.dat
        rw [List.map_append, hdat, List.take_add_one, hu, List.map_append]; rfl
      · skip
        show x1.length - (k + 1) < x1.length - k
        omega
    · skip
      refine W_exit ?_
      refine W_seq ?_
      refine W_region ?_
      refine L_loadW rfl rfl (by first | exact RdC.blk (by repeat (first | exact List.Mem.head _ | apply List.Mem.tail)) | exact RdC.old (Cells.el h1.2.2 rfl hu)) (by exact agg41) ?_
      refine L_storeW rfl rfl (by repeat (first | exact Pick.here _ | apply Pick.there)) (by exact agg41) (by rfl) (by first | (simp [Value.oneCell', TL.hdr]; done) | exact fun v hv => GT.one _ v hv) ?_
      refine L_nil ?_
      refine W_conv (M' := treeH ((a1, a2, (⟨ag, ac, 75, cur, atl⟩ : TL T_Sess)) : T_Desks) :: _) (fun w h => pairFlat (flat_int h1.1) (pairFlat (flat_int h1.2.1) (frontPick (x := treeH (⟨ag, ac, 75, cur, atl⟩ : TL T_Sess)) (by repeat (first | exact Pick.here _ | apply Pick.there)) h))) ?_
      refine W_ret ?_
      -- return 1 (R8)
      refine res1 rfl (ResOK.cell rfl (by repeat (first | exact List.Mem.head _ | apply List.Mem.tail)) (by exact agg41)) ⟨(a1, a2, (⟨ag, ac, 75, cur, atl⟩ : TL T_Sess)), rfl, ?_, rfl, rfl⟩ (MSub.cons (by repeat (first | exact Pick.here _ | apply Pick.there)) (MSub.nil _))
      have hk2 : x1.length ≤ k := by simpa using hc3
      rw [List.take_of_length_le hk2] at hdat
      simp only [dat_pair, dat_TL, hdat]

theorem l29Copy_spec (w : World) (t1 : T_Desks) (h1 : GT.rd w [] t1) (hb : Bk.bulk t1 ≤ 1048576) : Spec Try.prog 56 [.agg (GT.cells t1).toArray].toArray w [] (fun v M => ∃ t2 : T_Desks, v = .agg (GT.cells t2).toArray ∧ GT.dat t2 = GT.dat t1 ∧ t2.2.2.e = 75 ∧ M = [treeH t2]) := by
  obtain ⟨a1, a2, ⟨a3, c3, e3, x1, y1⟩⟩ := t1
  have hm1 : x1.length ≤ 9223372036854775807 := rd_len h1.2.2
  have hbx : x1.length + bulks x1 ≤ 1048576 := by simp only [bulk_pair, bulk_TL, bulk_int] at hb; omega
  change Spec _ _ [Value.agg #[.int .i64 a1, .int .i64 a2, TL.hdr ⟨a3, c3, e3, x1, y1⟩]].toArray w [] _
  refine Spec.intro Try.func56 rfl Try.ntmps56 rfl ?_
  refine W_seq ?_
  refine W_region ?_
  refine L_box rfl rfl (fun bk1 => ?_)
  refine L_alloc rfl zero41 (fun bk2 => ?_)
  refine L_nil ?_
  refine W_seq ?_
  refine W_region ?_
  refine L_fieldAddr rfl rfl fld41_0 ?_
  refine L_load rfl rfl (by first | exact RdC.blk (by repeat (first | exact List.Mem.head _ | apply List.Mem.tail)) | exact RdC.old (Cells.el h1.2.2 rfl hu)) one3 rfl ?_
  refine L_fieldAddr rfl rfl fld41_1 ?_
  refine L_load rfl rfl (by first | exact RdC.blk (by repeat (first | exact List.Mem.head _ | apply List.Mem.tail)) | exact RdC.old (Cells.el h1.2.2 rfl hu)) one3 rfl ?_
  refine L_build (xs := [(0, .tmp 7), (1, .tmp 9)]) (cs := [.int .i64 a1, .int .i64 a2, .slice none 0 0]) rfl rfl bld41 rfl ?_
  refine L_alloc rfl zero41 (fun bk3 => ?_)
  refine L_storeW rfl rfl (by repeat (first | exact Pick.here _ | apply Pick.there)) (by exact agg41) (by rfl) (by first | (simp [Value.oneCell', TL.hdr]; done) | exact fun v hv => GT.one _ v hv) ?_
  refine L_nil ?_
  refine W_seq ?_
  refine W_seq ?_
  refine W_region ?_
  refine L_assign rfl rfl ?_
  refine L_nil ?_
  refine W_block ?_
  refine W_conv (addNil (τ := T_Sess) 75) ?_
  refine W_loopC (σ := Nat × Option Addr × Nat × List Value × List T_Sess) (0, none, 0, [], []) (fun (p : Nat × Option Addr × Nat × List Value × List T_Sess) => [(4, .int .i64 (p.1 : Int))]) (fun (p : Nat × Option Addr × Nat × List Value × List T_Sess) => [treeH (⟨p.2.1, p.2.2.1, 75, p.2.2.2.2, p.2.2.2.1⟩ : TL T_Sess), blk bk3 [.int .i64 a1, .int .i64 a2, .slice p.2.1 p.2.2.2.2.length p.2.2.1] 41]) (fun (p : Nat × Option Addr × Nat × List Value × List T_Sess) => p.1 ≤ x1.length ∧ p.2.2.2.2.length = p.1 ∧ p.2.2.2.2.map GT.dat = (x1.take p.1).map GT.dat) (fun (p : Nat × Option Addr × Nat × List Value × List T_Sess) => x1.length - p.1) [(1, _), (2, _), (3, _)] [_, _] ?_ (Sub.cons rfl (Sub.cons rfl (Sub.cons rfl (Sub.cons rfl (Sub.nil _))))) (MSub.cons (by repeat (first | exact Pick.here _ | apply Pick.there)) (MSub.cons (by repeat (first | exact Pick.here _ | apply Pick.there)) (MSub.cons (by repeat (first | exact Pick.here _ | apply Pick.there)) (MSub.cons (by repeat (first | exact Pick.here _ | apply Pick.there)) (MSub.nil _))))) ?_
  · skip
    exact ⟨Nat.zero_le _, rfl, rfl⟩
  · skip
    rintro ⟨k, ag, ac, atl, cur⟩ ⟨hk, hlen, hdat⟩
    dsimp only at hk hlen hdat
    refine W_weaken (l' := [(1, _), (2, _), (3, _), (4, _)]) (Sub.cons rfl (Sub.cons rfl (Sub.cons rfl (Sub.cons rfl (Sub.nil _))))) (M' := [_, _, _, _]) (MSub.cons (by repeat (first | exact Pick.here _ | apply Pick.there)) (MSub.cons (by repeat (first | exact Pick.here _ | apply Pick.there)) (MSub.cons (by repeat (first | exact Pick.here _ | apply Pick.there)) (MSub.cons (by repeat (first | exact Pick.here _ | apply Pick.there)) (MSub.nil _))))) ?_
    refine W_seq ?_
    refine W_seq ?_
    refine W_region ?_
    refine L_move rfl rfl ?_
    refine L_fieldAddr rfl rfl fld41_2 ?_
    refine L_load rfl rfl (by first | exact RdC.blk (by repeat (first | exact List.Mem.head _ | apply List.Mem.tail)) | exact RdC.old (Cells.el h1.2.2 rfl hu)) one39 rfl ?_
    refine L_lenS rfl rfl el39 ?_
    refine L_binV rfl rfl rfl bv_lss ?_
    refine L_nil ?_
    refine W_weaken (l' := [(1, _), (2, _), (3, _), (4, _), (15, _)]) (Sub.cons rfl (Sub.cons rfl (Sub.cons rfl (Sub.cons rfl (Sub.cons rfl (Sub.nil _)))))) (MSub.refl _) ?_
    refine W_cond rfl (fun hc3 => ?_) (fun hc3 => ?_)
    · skip
      have hk1 : k < x1.length := by simpa using hc3
      obtain ⟨g1, o1, rfl⟩ := rd_addr h1.2.2 hk1
      obtain ⟨u, hu⟩ := getEl hk1
      have hru : GT.rd w [] u := h1.2.2.2.2.1 _ (List.mem_of_getElem? hu)
      have hbu : Bk.bulk u ≤ 1048576 := by have := bulk_mem (List.mem_of_getElem? hu); omega
      obtain ⟨b1, b2, b3, ⟨b4, c4, e4, x4, y4⟩⟩ := u
      have hm4 : x4.length ≤ 1048576 := by simp only [bulk_pair, bulk_TL, bulk_int] at hbu; omega
      refine W_skip ?_
      refine W_seq ?_
      refine W_block ?_
      refine W_seq ?_
      refine W_region ?_
      refine L_fieldAddr rfl rfl fld41_2 ?_
      refine L_load rfl rfl (by first | exact RdC.blk (by repeat (first | exact List.Mem.head _ | apply List.Mem.tail)) | exact RdC.old (Cells.el h1.2.2 rfl hu)) one39 rfl ?_
      refine L_move rfl rfl ?_
      refine L_indexAddr rfl rfl rfl el39 rfl (by omega) ?_
      refine L_loadW rfl rfl (by first | exact RdC.blk (by repeat (first | exact List.Mem.head _ | apply List.Mem.tail)) | exact RdC.old (Cells.el h1.2.2 rfl hu)) (by exact agg75) ?_
      refine L_alloc rfl zero75 (fun bk5 => ?_)
      refine L_storeW rfl rfl (by repeat (first | exact Pick.here _ | apply Pick.there)) (by exact agg75) (by rfl) (by first | (simp [Value.oneCell', TL.hdr]; done) | exact fun v hv => GT.one _ v hv) ?_
      refine L_nil ?_
      refine W_seq ?_
      refine W_region ?_
      refine L_buildSlice0 ByteArray rfl el73 (fun bb0 => ?_)
      refine L_fieldAddr rfl rfl fld75_3 ?_
      refine L_load rfl rfl (by first | exact RdC.blk (by repeat (first | exact List.Mem.head _ | apply List.Mem.tail)) | exact RdC.old (Cells.el h1.2.2 rfl hu)) one73 rfl ?_
      refine L_appendT (Lg := some ⟨bb0, 0, none⟩) (Le := 9) (⟨b4, c4, e4, x4, y4⟩ : TL ByteArray) rfl rfl rfl el73 rfl rfl (by repeat (first | exact Pick.here _ | apply Pick.there)) rfl (.inl rfl) (RdT.old hru.2.2.2) (fun y hy => flat_str (hru.2.2.2.2.2.1 y hy)) (by show 0 + x4.length ≤ _; omega) (by decide) (fun a' c' tl' => ?_)
      simp only [List.nil_append]
      refine L_fieldAddr rfl rfl fld75_3 ?_
      refine L_store rfl rfl (by repeat (first | exact Pick.here _ | apply Pick.there)) one73 rfl rfl ?_
      refine L_nil ?_
      refine W_region ?_
      refine L_fieldAddr rfl rfl fld41_2 ?_
      refine L_load rfl rfl (by first | exact RdC.blk (by repeat (first | exact List.Mem.head _ | apply List.Mem.tail)) | exact RdC.old (Cells.el h1.2.2 rfl hu)) one39 rfl ?_
      refine L_loadW rfl rfl (by first | exact RdC.blk (by repeat (first | exact List.Mem.head _ | apply List.Mem.tail)) | exact RdC.old (Cells.el h1.2.2 rfl hu)) (by exact agg75) ?_
      refine L_buildSlice1 rfl rfl el39 rfl (by decide) (by decide) rfl (fun bb => ?_)
      refine L_conv (M' := treeH (((b1, b2, b3, (⟨a', c', 9, x4, tl'⟩ : TL ByteArray))) : T_Sess) :: _) (fun w h => pairFlat (flat_int hru.1) (pairFlat (flat_int hru.2.1) (pairFlat (flat_int hru.2.2.1) (frontPick (x := treeH (⟨a', c', 9, x4, tl'⟩ : TL ByteArray)) (by repeat (first | exact Pick.here _ | apply Pick.there)) h)))) ?_
      refine L_append1 (((b1, b2, b3, (⟨a', c', 9, x4, tl'⟩ : TL ByteArray))) : T_Sess) rfl rfl rfl el39 rfl rfl (by repeat (first | exact Pick.here _ | apply Pick.there)) rfl (.inl rfl) (T' := 75) (by repeat (first | exact List.Mem.head _ | apply List.Mem.tail)) (Pick.here _) (by (try dsimp only); omega) (by decide) (fun a2' c2' tl2' => ?_)
      refine L_fieldAddr rfl rfl fld41_2 ?_
      refine L_store rfl rfl (by repeat (first | exact Pick.here _ | apply Pick.there)) one39 rfl rfl ?_
      refine L_nil ?_
      refine W_region ?_
      refine L_move rfl rfl ?_
      refine L_binV rfl rfl rfl (bv_addR (by unfold inR; omega)) ?_
      refine L_assign rfl rfl ?_
      refine L_nil ?_
      refine ⟨(k + 1, a2', c2', tl2', cur ++ [((b1, b2, b3, (⟨a', c', 9, x4, tl'⟩ : TL ByteArray)) : T_Sess)]), (Sub.cons rfl (Sub.cons rfl (Sub.cons rfl (Sub.cons rfl (Sub.nil _))))), (MSub.cons (by repeat (first | exact Pick.here _ | apply Pick.there)) (MSub.cons (by repeat (first | exact Pick.here _ | apply Pick.there)) (MSub.cons (by repeat (first | exact Pick.here _ | apply Pick.there)) (MSub.cons (by repeat (first | exact Pick.here _ | apply Pick.there)) (MSub.nil _))))), ?_, ?_⟩
      · skip
        refine ⟨by show k + 1 ≤ x1.length; omega, by show (cur ++ [_]).length = k + 1; rw [List.length_append]; show cur.length + 1 = k + 1; omega, ?_⟩
        show (cur ++ [_]).map GT.dat = (x1.take (k + 1)).map GT.dat
        rw [List.map_append, hdat, List.take_add_one, hu, List.map_append]; rfl
      · skip
        show x1.length - (k + 1) < x1.length - k
        omega
    · skip
      refine W_exit ?_
      refine W_seq ?_
      refine W_region ?_
      refine L_loadW rfl rfl (by first | exact RdC.blk (by repeat (first | exact List.Mem.head _ | apply List.Mem.tail)) | exact RdC.old (Cells.el h1.2.2 rfl hu)) (by exact agg41) ?_
      refine L_storeW rfl rfl (by repeat (first | exact Pick.here _ | apply Pick.there)) (by exact agg41) (by rfl) (by first | (simp [Value.oneCell', TL.hdr]; done) | exact fun v hv => GT.one _ v hv) ?_
      refine L_nil ?_
      refine W_conv (M' := treeH ((a1, a2, (⟨ag, ac, 75, cur, atl⟩ : TL T_Sess)) : T_Desks) :: _) (fun w h => pairFlat (flat_int h1.1) (pairFlat (flat_int h1.2.1) (frontPick (x := treeH (⟨ag, ac, 75, cur, atl⟩ : TL T_Sess)) (by repeat (first | exact Pick.here _ | apply Pick.there)) h))) ?_
      refine W_ret ?_
      -- return 1 (R8)
      refine res1 rfl (ResOK.cell rfl (by repeat (first | exact List.Mem.head _ | apply List.Mem.tail)) (by exact agg41)) ⟨(a1, a2, (⟨ag, ac, 75, cur, atl⟩ : TL T_Sess)), rfl, ?_, rfl, rfl⟩ (MSub.cons (by repeat (first | exact Pick.here _ | apply Pick.there)) (MSub.nil _))
      have hk2 : x1.length ≤ k := by simpa using hc3
      rw [List.take_of_length_le hk2] at hdat
      simp only [dat_pair, dat_TL, hdat]

end Go.Proofs.SL
