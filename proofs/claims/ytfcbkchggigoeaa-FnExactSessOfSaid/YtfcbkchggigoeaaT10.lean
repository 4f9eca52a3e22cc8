import Derived.Test.YtfcbkchggigoeaaT9
import Derived.Test.YtfcbkchggigoeaaBaseE
namespace Go.Proofs.SL
open Go

def fmT (c : Int) (xs : List T_Sess) : List Int := (xs.filter (fun s => decide (s.2.1 = c))).map (fun s => s.1)
def fmD (c : Int) (xs : List (Int × Int × Int × List ByteArray)) : List Int := (xs.filter (fun s => decide (s.2.1 = c))).map (fun s => s.1)
theorem fm_dat (c : Int) (xs : List T_Sess) : fmD c (xs.map GT.dat) = fmT c xs := by
  unfold fmD fmT
  rw [List.filter_map, List.map_map]; rfl
theorem fmT_hit {c : Int} {xs : List T_Sess} {k : Nat} {u : T_Sess} (hu : xs[k]? = some u) (h : u.2.1 = c) : fmT c (xs.take (k + 1)) = fmT c (xs.take k) ++ [u.1] := by
  unfold fmT
  rw [List.take_add_one, hu]; simp [h]
theorem fmT_miss {c : Int} {xs : List T_Sess} {k : Nat} {u : T_Sess} (hu : xs[k]? = some u) (h : ¬ u.2.1 = c) : fmT c (xs.take (k + 1)) = fmT c (xs.take k) := by
  unfold fmT
  rw [List.take_add_one, hu]; simp [h]
theorem fmT_len (c : Int) (xs : List T_Sess) : (fmT c xs).length ≤ xs.length := by
  unfold fmT
  rw [List.length_map]; exact List.length_filter_le _ _
noncomputable def sessOfD (d : Int × Int × List (Int × Int × Int × List ByteArray)) (c : Int) : List Int := if pB (okD d) = true then fmD c d.2.2 else []

theorem fn17 : IsFn Try.prog 17 := ⟨_, Try.func17, by kernel_rfl, rfl⟩
theorem fn19 : IsFn Try.prog 19 := ⟨_, Try.func19, by kernel_rfl, rfl⟩
theorem sSessOf_spec (w : World) (t1 : T_Desks) (c : Int) (h1 : GT.rd w [] t1) : Spec Try.prog 26 [.agg (GT.cells t1).toArray, .int .i64 c].toArray w [] (fun v M => ∃ t2 : TL Int, v = t2.hdr ∧ GT.dat t2 = sessOfD (GT.dat t1) c ∧ M = [treeH t2]) := by
  obtain ⟨a1, a2, ⟨a3, c3, e3, x1, y1⟩⟩ := t1
  have hm1 : x1.length ≤ 9223372036854775807 := rd_len h1.2.2
  change Spec _ _ [Value.agg #[.int .i64 a1, .int .i64 a2, TL.hdr ⟨a3, c3, e3, x1, y1⟩], .int .i64 c].toArray w [] _
  refine Spec.intro Try.func26 rfl Try.ntmps26 rfl ?_
  refine W_seq ?_
  refine W_region ?_
  refine L_box rfl rfl (fun bk2 => ?_)
  refine L_assign rfl rfl ?_
  refine L_nil ?_
  refine W_seq ?_
  refine W_region ?_
  refine L_buildSlice0 Int rfl el56 (fun bb0 => ?_)
  refine L_assign rfl rfl ?_
  refine L_nil ?_
  refine W_seq ?_
  refine W_seq ?_
  refine W_region ?_
  refine L_assign rfl rfl ?_
  refine L_nil ?_
  refine W_block ?_
  refine W_loopC (σ := Nat × Option Addr × Nat × List Value) (0, some ⟨bb0, 0, none⟩, 0, []) (fun (p : Nat × Option Addr × Nat × List Value) => [(5, .slice p.2.1 (fmT c (x1.take p.1)).length p.2.2.1), (6, .int .i64 (p.1 : Int))]) (fun (p : Nat × Option Addr × Nat × List Value) => [treeH (⟨p.2.1, p.2.2.1, 3, fmT c (x1.take p.1), p.2.2.2⟩ : TL Int)]) (fun (p : Nat × Option Addr × Nat × List Value) => p.1 ≤ x1.length ∧ (0 < p.1 → pB (okD (GT.dat ((a1, a2, ⟨a3, c3, e3, x1, y1⟩) : T_Desks))) = true)) (fun (p : Nat × Option Addr × Nat × List Value) => x1.length - p.1) [(1, _), (2, _)] [_] ?_ (Sub.cons rfl (Sub.cons rfl (Sub.cons rfl (Sub.cons rfl (Sub.nil _))))) (MSub.cons (by repeat (first | exact Pick.here _ | apply Pick.there)) (MSub.cons (by repeat (first | exact Pick.here _ | apply Pick.there)) (MSub.nil _))) ?_
  · skip
    exact ⟨Nat.zero_le _, fun h => absurd h (Nat.lt_irrefl _)⟩
  · skip
    rintro ⟨k, ag, ac, atl⟩ ⟨hk, hok⟩
    dsimp only at hk hok
    refine W_weaken (l' := [(1, _), (2, _), (5, _), (6, _)]) (Sub.cons rfl (Sub.cons rfl (Sub.cons rfl (Sub.cons rfl (Sub.nil _))))) (M' := [_, _]) (MSub.cons (by repeat (first | exact Pick.here _ | apply Pick.there)) (MSub.cons (by repeat (first | exact Pick.here _ | apply Pick.there)) (MSub.nil _))) ?_
    refine W_seq ?_
    refine W_seq ?_
    refine W_D0 [16] mix (by kernel_rfl) rfl ?_
    refine D_move GC.none (OpV.t rfl) ?_
    refine D_fieldAddr GC.none (OpV.t rfl) fld41_2 ?_
    refine D_load GC.none (OpV.t rfl) (fun hg => (by first | exact RdC.blk (by repeat (first | exact List.Mem.head _ | apply List.Mem.tail)) | exact RdC.old (Cells.el h1.2.2 rfl hu))) one39 rfl ?_
    refine D_lenS GC.none (OpV.t rfl) el39 ?_
    refine D_bin GC.none (OpV.t rfl) (OpV.t rfl) (fun hg => bv_lss) ?_
    refine D_move GC.none (OpV.t rfl) ?_
    refine D_loadW (GC.some rfl rfl) (OpV.t rfl) (fun hg => (by first | exact RdC.blk (by repeat (first | exact List.Mem.head _ | apply List.Mem.tail)) | exact RdC.old (Cells.el h1.2.2 rfl hu))) (by exact agg41) ?_
    refine D_callX (GC.some rfl rfl) fn17 (OpVs.cons (OpV.s rfl) (OpVs.nil)) (by exact fun hg w F hF hM => (fun w hw => sDesksOk_spec w (a1, a2, ⟨a3, c3, e3, x1, y1⟩) (rd_carry h1 hw)) w hF) ?_
    refine D_and (cy := _) GC.none (OpV.t rfl) (OpV.s rfl) (fun h hb => ⟨h, hb⟩) ?_
    refine DV_nil ?_
    refine Give_is rfl rfl ?_
    refine Give_drop rfl ?_
    refine Give_drop rfl ?_
    refine Give_drop rfl ?_
    refine Give_drop rfl ?_
    refine Give_drop rfl ?_
    refine Give_drop rfl ?_
    refine Give_drop rfl ?_
    refine Give_drop rfl ?_
    refine Give_nil ?_
    refine W_weaken (l' := [(1, _), (2, _), (5, _), (6, _), (16, _)]) (Sub.cons rfl (Sub.cons rfl (Sub.cons rfl (Sub.cons rfl (Sub.cons rfl (Sub.nil _)))))) (MSub.refl _) ?_
    refine W_cond rfl (fun hc3 => ?_) (fun hc3 => ?_)
    · skip
      simp at hc3
      obtain ⟨hk1, hokk⟩ := hc3
      replace hk1 : k < x1.length := hk1
      have hokd := pB_iff.1 hokk
      have hl4 : x1.length ≤ 4 := by have := hokd.2.2.1; simpa [dat_pair, dat_TL] using this
      obtain ⟨g1, o1, rfl⟩ := rd_addr h1.2.2 hk1
      obtain ⟨u, hu⟩ := getEl hk1
      have hru : GT.rd w [] u := h1.2.2.2.2.1 _ (List.mem_of_getElem? hu)
      obtain ⟨b1, b2, b3, ⟨b4, c4, e4, x4, y4⟩⟩ := u
      have hfl := fmT_len c (x1.take k)
      rw [List.length_take] at hfl
      refine W_skip ?_
      refine W_seq ?_
      refine W_block ?_
      refine W_seq ?_
      refine W_region ?_
      refine L_fieldAddr rfl rfl fld41_2 ?_
      refine L_load rfl rfl (by first | exact RdC.blk (by repeat (first | exact List.Mem.head _ | apply List.Mem.tail)) | exact RdC.old (Cells.el h1.2.2 rfl hu)) one39 rfl ?_
      refine L_move rfl rfl ?_
      refine L_indexAddr rfl rfl rfl el39 rfl (by omega) ?_
      refine L_fieldAddr rfl rfl fld75_1 ?_
      refine L_load rfl rfl (by first | exact RdC.blk (by repeat (first | exact List.Mem.head _ | apply List.Mem.tail)) | exact RdC.old (Cells.el h1.2.2 rfl hu)) one3 rfl ?_
      refine L_move rfl rfl ?_
      refine L_binV rfl rfl rfl bv_eql ?_
      refine L_nil ?_
      refine W_weaken (l' := [(1, _), (2, _), (5, _), (6, _), (26, _)]) (Sub.cons rfl (Sub.cons rfl (Sub.cons rfl (Sub.cons rfl (Sub.cons rfl (Sub.nil _)))))) (MSub.refl _) ?_
      refine W_cond rfl (fun hc5 => ?_) (fun hc5 => ?_)
      · skip
        refine W_region ?_
        refine L_move rfl rfl ?_
        refine L_fieldAddr rfl rfl fld41_2 ?_
        refine L_load rfl rfl (by first | exact RdC.blk (by repeat (first | exact List.Mem.head _ | apply List.Mem.tail)) | exact RdC.old (Cells.el h1.2.2 rfl hu)) one39 rfl ?_
        refine L_move rfl rfl ?_
        refine L_indexAddr rfl rfl rfl el39 rfl (by omega) ?_
        refine L_fieldAddr rfl rfl fld75_0 ?_
        refine L_load rfl rfl (by first | exact RdC.blk (by repeat (first | exact List.Mem.head _ | apply List.Mem.tail)) | exact RdC.old (Cells.el h1.2.2 rfl hu)) one3 rfl ?_
        refine L_buildSlice1 rfl rfl el56 rfl (by decide) (by decide) rfl (fun bb => ?_)
        refine L_append1F b1 rfl rfl rfl el56 rfl rfl (by repeat (first | exact Pick.here _ | apply Pick.there)) rfl (.inl rfl) (by repeat (first | exact List.Mem.head _ | apply List.Mem.tail)) (flat_int hru.1) (by (try dsimp only); omega) (by decide) (fun a' c' tl' => ?_)
        refine L_assign rfl rfl ?_
        refine L_nil ?_
        have hfm : fmT c (x1.take (k + 1)) = fmT c (x1.take k) ++ [b1] := fmT_hit hu (by simpa using hc5)
        rw [← hfm]
        refine W_region ?_
        refine L_move rfl rfl ?_
        refine L_binV rfl rfl rfl (bv_addR (by unfold inR; omega)) ?_
        refine L_assign rfl rfl ?_
        refine L_nil ?_
        refine ⟨(k + 1, a', c', tl'), (Sub.cons rfl (Sub.cons rfl (Sub.cons rfl (Sub.cons rfl (Sub.nil _))))), (MSub.cons (by repeat (first | exact Pick.here _ | apply Pick.there)) (MSub.cons (by repeat (first | exact Pick.here _ | apply Pick.there)) (MSub.nil _))), ?_, ?_⟩
        · skip
          exact ⟨by show k + 1 ≤ x1.length; omega, fun _ => hokk⟩
        · skip
          show x1.length - (k + 1) < x1.length - k
          omega
      · skip
        have hfm : fmT c (x1.take (k + 1)) = fmT c (x1.take k) := fmT_miss hu (by simpa using hc5)
        rw [← hfm]
        refine W_skip ?_
        refine W_region ?_
        refine L_move rfl rfl ?_
        refine L_binV rfl rfl rfl (bv_addR (by unfold inR; omega)) ?_
        refine L_assign rfl rfl ?_
        refine L_nil ?_
        refine ⟨(k + 1, ag, ac, atl), (Sub.cons rfl (Sub.cons rfl (Sub.cons rfl (Sub.cons rfl (Sub.nil _))))), (MSub.cons (by repeat (first | exact Pick.here _ | apply Pick.there)) (MSub.cons (by repeat (first | exact Pick.here _ | apply Pick.there)) (MSub.nil _))), ?_, ?_⟩
        · skip
          exact ⟨by show k + 1 ≤ x1.length; omega, fun _ => hokk⟩
        · skip
          show x1.length - (k + 1) < x1.length - k
          omega
    · skip
      refine W_exit ?_
      refine W_seq ?_
      refine W_region ?_
      refine L_move rfl rfl ?_
      refine L_assign rfl rfl ?_
      refine L_nil ?_
      refine W_ret ?_
      -- return 1 (R7)
      refine res1 rfl (ResOK.tmp rfl) ⟨⟨ag, ac, 3, fmT c (x1.take k), atl⟩, rfl, ?_, rfl⟩ (MSub.cons (by repeat (first | exact Pick.here _ | apply Pick.there)) (MSub.nil _))
      show (fmT c (x1.take k)).map GT.dat = _
      rw [map_dat_int]
      unfold sessOfD
      simp only [dat_pair, dat_TL, fm_dat]
      simp at hc3
      split
      · rename_i ho
        have hk2 : x1.length ≤ k := by
          rcases Nat.lt_or_ge k x1.length with h | h
          · have := hc3 h; simp only [dat_pair, dat_TL] at this; rw [ho] at this; cases this
          · exact h
        rw [List.take_of_length_le hk2]
      · rename_i ho
        rcases Nat.eq_zero_or_pos k with h | h
        · subst h; rfl
        · exact absurd (hok h) ho

theorem iSessOf_spec (w : World) (t1 : T_Desks) (c : Int) (h1 : GT.rd w [] t1) : Spec Try.prog 27 [.agg (GT.cells t1).toArray, .int .i64 c].toArray w [] (fun v M => ∃ t2 : TL Int, v = t2.hdr ∧ GT.dat t2 = sessOfD (GT.dat t1) c ∧ M = [treeH t2]) := by
  obtain ⟨a1, a2, ⟨a3, c3, e3, x1, y1⟩⟩ := t1
  have hm1 : x1.length ≤ 9223372036854775807 := rd_len h1.2.2
  change Spec _ _ [Value.agg #[.int .i64 a1, .int .i64 a2, TL.hdr ⟨a3, c3, e3, x1, y1⟩], .int .i64 c].toArray w [] _
  refine Spec.intro Try.func27 rfl Try.ntmps27 rfl ?_
  refine W_seq ?_
  refine W_region ?_
  refine L_box rfl rfl (fun bk2 => ?_)
  refine L_assign rfl rfl ?_
  refine L_nil ?_
  refine W_seq ?_
  refine W_seq ?_
  refine W_region ?_
  refine L_loadW rfl rfl (by first | exact RdC.blk (by repeat (first | exact List.Mem.head _ | apply List.Mem.tail)) | exact RdC.old (Cells.el h1.2.2 rfl hu)) (by exact agg41) ?_
  refine L_callX rfl fn19 rfl (by exact fun w hw => iDesksOk_spec w (a1, a2, ⟨a3, c3, e3, x1, y1⟩) (rd_carry h1 hw)) ?_
  refine L_not rfl rfl ?_
  refine L_nil ?_
  refine W_weaken (l' := [(1, _), (2, _), (10, _)]) (Sub.cons rfl (Sub.cons rfl (Sub.cons rfl (Sub.nil _)))) (MSub.refl _) ?_
  refine W_cond rfl (fun hc1 => ?_) (fun hc1 => ?_)
  · skip
    refine W_seq ?_
    refine W_region ?_
    refine L_assign rfl rfl ?_
    refine L_nil ?_
    refine W_conv (addNil (τ := Int) 3) ?_
    refine W_ret ?_
    -- return 1 (R2)
    refine res1 rfl (ResOK.tmp rfl) ⟨⟨none, 0, 3, [], []⟩, rfl, ?_, rfl⟩ (MSub.cons (by repeat (first | exact Pick.here _ | apply Pick.there)) (MSub.nil _))
    have hok : ¬ pB (okD (GT.dat ((a1, a2, ⟨a3, c3, e3, x1, y1⟩) : T_Desks))) = true := by simpa using hc1
    unfold sessOfD
    rw [if_neg hok]; rfl
  · skip
    have hokk : pB (okD (GT.dat ((a1, a2, ⟨a3, c3, e3, x1, y1⟩) : T_Desks))) = true := by simpa using hc1
    have hokd := pB_iff.1 hokk
    have hl4 : x1.length ≤ 4 := by have := hokd.2.2.1; simpa [dat_pair, dat_TL] using this
    refine W_skip ?_
    refine W_seq ?_
    refine W_region ?_
    refine L_buildSlice0 Int rfl el56 (fun bb0 => ?_)
    refine L_assign rfl rfl ?_
    refine L_nil ?_
    refine W_seq ?_
    refine W_seq ?_
    refine W_region ?_
    refine L_fieldAddr rfl rfl fld41_2 ?_
    refine L_load rfl rfl (by first | exact RdC.blk (by repeat (first | exact List.Mem.head _ | apply List.Mem.tail)) | exact RdC.old (Cells.el h1.2.2 rfl hu)) one39 rfl ?_
    refine L_lenS rfl rfl el39 ?_
    refine L_move rfl rfl ?_
    refine L_nil ?_
    refine W_block ?_
    refine W_loopC (σ := Nat × Option Addr × Nat × List Value) (0, some ⟨bb0, 0, none⟩, 0, []) (fun (p : Nat × Option Addr × Nat × List Value) => [(5, .slice p.2.1 (fmT c (x1.take p.1)).length p.2.2.1), (15, .int .i64 (p.1 : Int))]) (fun (p : Nat × Option Addr × Nat × List Value) => [treeH (⟨p.2.1, p.2.2.1, 3, fmT c (x1.take p.1), p.2.2.2⟩ : TL Int)]) (fun (p : Nat × Option Addr × Nat × List Value) => p.1 ≤ x1.length ∧ True) (fun (p : Nat × Option Addr × Nat × List Value) => x1.length - p.1) [(1, _), (13, _), (14, _)] [_] ?_ (Sub.cons rfl (Sub.cons rfl (Sub.cons rfl (Sub.cons rfl (Sub.cons rfl (Sub.nil _)))))) (MSub.cons (by repeat (first | exact Pick.here _ | apply Pick.there)) (MSub.cons (by repeat (first | exact Pick.here _ | apply Pick.there)) (MSub.nil _))) ?_
    · skip
      exact ⟨Nat.zero_le _, trivial⟩
    · skip
      rintro ⟨k, ag, ac, atl⟩ ⟨hk, hok⟩
      dsimp only at hk hok
      refine W_weaken (l' := [(1, _), (5, _), (13, _), (14, _), (15, _)]) (Sub.cons rfl (Sub.cons rfl (Sub.cons rfl (Sub.cons rfl (Sub.cons rfl (Sub.nil _)))))) (M' := [_, _]) (MSub.cons (by repeat (first | exact Pick.here _ | apply Pick.there)) (MSub.cons (by repeat (first | exact Pick.here _ | apply Pick.there)) (MSub.nil _))) ?_
      refine W_seq ?_
      refine W_region ?_
      refine L_binV rfl rfl rfl bv_lss ?_
      refine L_nil ?_
      refine W_seq ?_
      refine W_weaken (l' := [(1, _), (5, _), (13, _), (14, _), (15, _), (16, _)]) (Sub.cons rfl (Sub.cons rfl (Sub.cons rfl (Sub.cons rfl (Sub.cons rfl (Sub.cons rfl (Sub.nil _))))))) (MSub.refl _) ?_
      refine W_cond rfl (fun hc5 => ?_) (fun hc5 => ?_)
      · skip
        have hk1 : k < x1.length := by simpa using hc5
        obtain ⟨g1, o1, rfl⟩ := rd_addr h1.2.2 hk1
        obtain ⟨u, hu⟩ := getEl hk1
        have hru : GT.rd w [] u := h1.2.2.2.2.1 _ (List.mem_of_getElem? hu)
        obtain ⟨b1, b2, b3, ⟨b4, c4, e4, x4, y4⟩⟩ := u
        have hfl := fmT_len c (x1.take k)
        rw [List.length_take] at hfl
        refine W_skip ?_
        refine W_seq ?_
        refine W_block ?_
        refine W_seq ?_
        refine W_region ?_
        refine L_indexAddr rfl rfl rfl el39 rfl (by omega) ?_
        refine L_loadW rfl rfl (by first | exact RdC.blk (by repeat (first | exact List.Mem.head _ | apply List.Mem.tail)) | exact RdC.old (Cells.el h1.2.2 rfl hu)) (by exact agg75) ?_
        refine L_alloc rfl zero75 (fun bk7 => ?_)
        refine L_storeW rfl rfl (by repeat (first | exact Pick.here _ | apply Pick.there)) (by exact agg75) (by rfl) (by first | (simp [Value.oneCell', TL.hdr]; done) | exact fun v hv => GT.one _ v hv) ?_
        refine L_nil ?_
        refine W_seq ?_
        refine W_region ?_
        refine L_fieldAddr rfl rfl fld75_1 ?_
        refine L_load rfl rfl (by first | exact RdC.blk (by repeat (first | exact List.Mem.head _ | apply List.Mem.tail)) | exact RdC.old (Cells.el h1.2.2 rfl hu)) one3 rfl ?_
        refine L_move rfl rfl ?_
        refine L_binV rfl rfl rfl bv_eql ?_
        refine L_nil ?_
        refine W_weaken (l' := [(1, _), (5, _), (7, _), (13, _), (14, _), (15, _), (22, _)]) (Sub.cons rfl (Sub.cons rfl (Sub.cons rfl (Sub.cons rfl (Sub.cons rfl (Sub.cons rfl (Sub.cons rfl (Sub.nil _)))))))) (MSub.refl _) ?_
        refine W_cond rfl (fun hc7 => ?_) (fun hc7 => ?_)
        · skip
          refine W_region ?_
          refine L_move rfl rfl ?_
          refine L_fieldAddr rfl rfl fld75_0 ?_
          refine L_load rfl rfl (by first | exact RdC.blk (by repeat (first | exact List.Mem.head _ | apply List.Mem.tail)) | exact RdC.old (Cells.el h1.2.2 rfl hu)) one3 rfl ?_
          refine L_buildSlice1 rfl rfl el56 rfl (by decide) (by decide) rfl (fun bb => ?_)
          refine L_append1F b1 rfl rfl rfl el56 rfl rfl (by repeat (first | exact Pick.here _ | apply Pick.there)) rfl (.inl rfl) (by repeat (first | exact List.Mem.head _ | apply List.Mem.tail)) (flat_int hru.1) (by (try dsimp only); omega) (by decide) (fun a' c' tl' => ?_)
          refine L_assign rfl rfl ?_
          refine L_nil ?_
          have hfm : fmT c (x1.take (k + 1)) = fmT c (x1.take k) ++ [b1] := fmT_hit hu (by simpa using hc7)
          rw [← hfm]
          refine W_region ?_
          refine L_binV rfl rfl rfl (bv_addR (by unfold inR; omega)) ?_
          refine L_move rfl rfl ?_
          refine L_nil ?_
          refine ⟨(k + 1, a', c', tl'), (Sub.cons rfl (Sub.cons rfl (Sub.cons rfl (Sub.cons rfl (Sub.cons rfl (Sub.nil _)))))), (MSub.cons (by repeat (first | exact Pick.here _ | apply Pick.there)) (MSub.cons (by repeat (first | exact Pick.here _ | apply Pick.there)) (MSub.nil _))), ?_, ?_⟩
          · skip
            exact ⟨by show k + 1 ≤ x1.length; omega, trivial⟩
          · skip
            show x1.length - (k + 1) < x1.length - k
            omega
        · skip
          have hfm : fmT c (x1.take (k + 1)) = fmT c (x1.take k) := fmT_miss hu (by simpa using hc7)
          rw [← hfm]
          refine W_skip ?_
          refine W_region ?_
          refine L_binV rfl rfl rfl (bv_addR (by unfold inR; omega)) ?_
          refine L_move rfl rfl ?_
          refine L_nil ?_
          refine ⟨(k + 1, ag, ac, atl), (Sub.cons rfl (Sub.cons rfl (Sub.cons rfl (Sub.cons rfl (Sub.cons rfl (Sub.nil _)))))), (MSub.cons (by repeat (first | exact Pick.here _ | apply Pick.there)) (MSub.cons (by repeat (first | exact Pick.here _ | apply Pick.there)) (MSub.nil _))), ?_, ?_⟩
          · skip
            exact ⟨by show k + 1 ≤ x1.length; omega, trivial⟩
          · skip
            show x1.length - (k + 1) < x1.length - k
            omega
      · skip
        refine W_exit ?_
        refine W_seq ?_
        refine W_region ?_
        refine L_move rfl rfl ?_
        refine L_assign rfl rfl ?_
        refine L_nil ?_
        refine W_ret ?_
        -- return 2 (R10)
        refine res1 rfl (ResOK.tmp rfl) ⟨⟨ag, ac, 3, fmT c (x1.take k), atl⟩, rfl, ?_, rfl⟩ (MSub.cons (by repeat (first | exact Pick.here _ | apply Pick.there)) (MSub.nil _))
        show (fmT c (x1.take k)).map GT.dat = _
        rw [map_dat_int]
        unfold sessOfD
        rw [if_pos hokk]
        simp only [dat_pair, dat_TL, fm_dat]
        have hk2 : x1.length ≤ k := by simpa using hc5
        rw [List.take_of_length_le hk2]

end Go.Proofs.SL
