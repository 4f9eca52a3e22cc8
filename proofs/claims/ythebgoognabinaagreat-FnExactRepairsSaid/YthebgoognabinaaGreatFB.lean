/- The families of the exact laws over the types that they are given: equality, size, copy, marks. -/
import Derived.Test.YthebgoognabinaaGreatB2
import Derived.Test.YthebgoognabinaaGreatFC
import Derived.Test.YthebgoognabinaaGreatRows
namespace Go.Proofs.SL
open Go
theorem el28 : elOf Tryz.prog 28 = some (4, 1, 1, [.bool false]) := by kernel_rfl
theorem one4 : oneOf Tryz.prog 4 = true := by kernel_rfl
theorem und4 : Tryz.prog.underlying 4 = some (.bool) := by kernel_rfl
theorem eqBoolS_spec (w : World) (t1 t2 : TL Bool) (h1 : GT.rd w [] t1) (h2 : GT.rd w [] t2) : Spec Tryz.prog 14 [t1.hdr, t2.hdr].toArray w [] (IsV (.bool (eqB (GT.dat t1) (GT.dat t2)))) := by
  obtain ⟨a1, c1, e1, x1, y1⟩ := t1
  obtain ⟨a2, c2, e2, x2, y2⟩ := t2
  have hm1 : x1.length ≤ 9223372036854775807 := rd_len h1
  have hm2 : x2.length ≤ 9223372036854775807 := rd_len h2
  dsimp only [TL.hdr]
  refine Spec.intro Tryz.func14 rfl Tryz.ntmps14 rfl ?_
  refine W_seq ?_
  refine W_region ?_
  refine L_assign rfl rfl ?_
  refine L_nil ?_
  refine W_seq ?_
  refine W_seq ?_
  refine W_region ?_
  refine L_move rfl rfl ?_
  refine L_lenS rfl rfl el28 ?_
  refine L_move rfl rfl ?_
  refine L_lenS rfl rfl el28 ?_
  refine L_binV rfl rfl rfl bv_neq ?_
  refine L_nil ?_
  refine W_weaken (l' := [(0, _), (1, _), (10, _)]) (Sub.cons rfl (Sub.cons rfl (Sub.cons rfl (Sub.nil _)))) (MSub.refl _) ?_
  refine W_cond rfl (fun hc1 => ?_) (fun hc1 => ?_)
  · skip
    refine W_seq ?_
    refine W_region ?_
    refine L_assign rfl rfl ?_
    refine L_nil ?_
    refine W_ret ?_
    -- return 1 (R2)
    refine res1 rfl (ResOK.tmp rfl) ⟨?_, rfl⟩ (MSub.nil _)
    refine congrArg Value.bool (Eq.symm (eqB_false.2 fun e => ?_))
    simp at hc1
    exact hc1 (by have := congrArg List.length e; simp [dat_TL] at this; omega)
  · skip
    have hl : x1.length = x2.length := by simp at hc1; omega
    refine W_skip ?_
    refine W_seq ?_
    refine W_seq ?_
    refine W_region ?_
    refine L_assign rfl rfl ?_
    refine L_nil ?_
    refine W_block ?_
    refine W_loopC (σ := Nat) 0 (fun (k : Nat) => [(5, .int .i64 (k : Int))]) (fun (k : Nat) => []) (fun (k : Nat) => k ≤ x1.length ∧ (x1.map GT.dat).take k = (x2.map GT.dat).take k) (fun (k : Nat) => x1.length - k) [(0, _), (1, _)] [] ?_ (Sub.cons rfl (Sub.cons rfl (Sub.cons rfl (Sub.nil _)))) (MSub.nil _) ?_
    · skip
      exact ⟨Nat.zero_le _, rfl⟩
    · skip
      rintro k ⟨hk, ht⟩
      refine W_weaken (l' := [(0, _), (1, _), (5, _)]) (Sub.cons rfl (Sub.cons rfl (Sub.cons rfl (Sub.nil _)))) (M' := []) (MSub.nil _) ?_
      refine W_seq ?_
      refine W_seq ?_
      refine W_region ?_
      refine L_move rfl rfl ?_
      refine L_move rfl rfl ?_
      refine L_lenS rfl rfl el28 ?_
      refine L_binV rfl rfl rfl bv_lss ?_
      refine L_nil ?_
      refine W_weaken (l' := [(0, _), (1, _), (5, _), (14, _)]) (Sub.cons rfl (Sub.cons rfl (Sub.cons rfl (Sub.cons rfl (Sub.nil _))))) (MSub.refl _) ?_
      refine W_cond rfl (fun hc4 => ?_) (fun hc4 => ?_)
      · skip
        have hk1 : k < x1.length := by simpa using hc4
        obtain ⟨g1, o1, rfl⟩ := rd_addr h1 hk1
        obtain ⟨g2, o2, rfl⟩ := rd_addr (k := k) h2 (show k < x2.length by omega)
        obtain ⟨u1, hu1⟩ := getEl hk1
        obtain ⟨u2, hu2⟩ := getEl (show k < x2.length by omega)
        refine W_skip ?_
        refine W_seq ?_
        refine W_block ?_
        refine W_seq ?_
        refine W_D0 [25] mix (by kernel_rfl) rfl ?_
        refine D_move GC.none (OpV.t rfl) ?_
        refine D_move GC.none (OpV.t rfl) ?_
        refine D_indexAddr _ GC.none (OpV.t rfl) (OpV.t rfl) el28 (fun hg => ⟨rfl, by (try dsimp only); omega⟩) ?_
        refine D_load0 GC.none (OpV.t rfl) (fun hg => (by first | exact RdC.blk (by repeat (first | exact List.Mem.head _ | apply List.Mem.tail)) | exact RdC.old (Cells.el h1 rfl hu1) | exact RdC.old (Cells.el h2 rfl hu2))) one4 rfl ?_
        refine D_move GC.none (OpV.t rfl) ?_
        refine D_move GC.none (OpV.t rfl) ?_
        refine D_indexAddr _ GC.none (OpV.t rfl) (OpV.t rfl) el28 (fun hg => ⟨rfl, by (try dsimp only); omega⟩) ?_
        refine D_load0 GC.none (OpV.t rfl) (fun hg => (by first | exact RdC.blk (by repeat (first | exact List.Mem.head _ | apply List.Mem.tail)) | exact RdC.old (Cells.el h1 rfl hu1) | exact RdC.old (Cells.el h2 rfl hu2))) one4 rfl ?_
        refine D_bin GC.none (OpV.t rfl) (OpV.t rfl) (fun hg => (bv_bneq und4)) ?_
        refine DV_nil ?_
        refine Give_is rfl rfl ?_
        refine Give_drop rfl ?_
        refine Give_drop rfl ?_
        refine Give_drop rfl ?_
        refine Give_drop rfl ?_
        refine Give_drop rfl ?_
        refine Give_drop rfl ?_
        refine Give_drop rfl ?_
        refine Give_drop rfl ?_
        refine Give_nil ?_
        refine W_weaken (l' := [(0, _), (1, _), (5, _), (25, _)]) (Sub.cons rfl (Sub.cons rfl (Sub.cons rfl (Sub.cons rfl (Sub.nil _))))) (MSub.refl _) ?_
        refine W_cond rfl (fun hc6 => ?_) (fun hc6 => ?_)
        · skip
          refine W_seq ?_
          refine W_region ?_
          refine L_assign rfl rfl ?_
          refine L_nil ?_
          refine W_ret ?_
          -- return 2 (R7)
          refine res1 rfl (ResOK.tmp rfl) ⟨?_, rfl⟩ (MSub.nil _)
          refine congrArg Value.bool (Eq.symm (eqB_false.2 fun e => ?_))
          simp at hc6
          replace e : x1.map GT.dat = x2.map GT.dat := e
          have e2 := congrArg (fun l => l[k]?) e
          simp only [List.getElem?_map, hu1, hu2, Option.map_some, Option.some.injEq] at e2
          exact hc6 (by simpa [dat_int, dat_str, dat_bool] using e2)
        · skip
          refine W_skip ?_
          refine W_region ?_
          refine L_move rfl rfl ?_
          refine L_binV rfl rfl rfl (bv_addR (by unfold inR; omega)) ?_
          refine L_assign rfl rfl ?_
          refine L_nil ?_
          refine ⟨k + 1, (Sub.cons rfl (Sub.cons rfl (Sub.cons rfl (Sub.nil _)))), (MSub.nil _), ?_, ?_⟩
          · skip
            exact ⟨by omega, take_succ_eq ht (by rw [List.getElem?_map, hu1]; rfl) (by rw [List.getElem?_map, hu2]; rfl) (by simpa [dat_int, dat_str, dat_bool] using hc6)⟩
          · skip
            (try dsimp only); omega
      · skip
        refine W_exit ?_
        refine W_seq ?_
        refine W_region ?_
        refine L_assign rfl rfl ?_
        refine L_nil ?_
        refine W_ret ?_
        -- return 3 (R8)
        refine res1 rfl (ResOK.tmp rfl) ⟨?_, rfl⟩ (MSub.nil _)
        refine congrArg Value.bool (Eq.symm (eqB_true.2 ?_))
        have hk2 : x1.length ≤ k := by simpa using hc4
        have h3 := ht
        rw [List.take_of_length_le (by simp; omega), List.take_of_length_le (by simp; omega)] at h3
        exact h3

theorem toBoolS_spec (w : World) (t1 : TL Bool) (h1 : GT.rd w [] t1) (hb : Bk.bulk t1 ≤ 1048576) : Spec Tryz.prog 9 [t1.hdr].toArray w [] (fun v M => ∃ t2 : TL Bool, v = t2.hdr ∧ GT.dat t2 = GT.dat t1 ∧ M = [treeH t2]) := by
  obtain ⟨a1, c1, e1, x1, y1⟩ := t1
  rw [bulk_TL] at hb
  dsimp only [TL.hdr]
  refine Spec.intro Tryz.func9 rfl Tryz.ntmps9 rfl ?_
  refine W_seq ?_
  refine W_region ?_
  refine L_assign rfl rfl ?_
  refine L_nil ?_
  refine W_seq ?_
  refine W_region ?_
  refine L_move rfl rfl ?_
  refine L_lenS rfl rfl el28 ?_
  refine L_make (τ := Bool) false rfl rfl rfl el28 rfl rfl (flat_bool _) (by omega) (by unfold maxLen; omega) (fun g => ?_)
  refine L_assign rfl rfl ?_
  refine L_nil ?_
  refine W_seq ?_
  refine W_seq ?_
  refine W_region ?_
  refine L_assign rfl rfl ?_
  refine L_nil ?_
  refine W_block ?_
  refine W_loopC (σ := Nat × List Bool) (0, List.replicate x1.length false) (fun (p : Nat × List Bool) => [(4, .int .i64 (p.1 : Int))]) (fun (p : Nat × List Bool) => [treeH (⟨some ⟨g, 0, none⟩, x1.length, 4, p.2, []⟩ : TL Bool)]) (fun (p : Nat × List Bool) => p.1 ≤ x1.length ∧ p.2.length = x1.length ∧ (p.2.take p.1).map GT.dat = (x1.take p.1).map GT.dat) (fun (p : Nat × List Bool) => x1.length - p.1) [(0, _), (3, _)] [] ?_ (Sub.cons rfl (Sub.cons rfl (Sub.cons rfl (Sub.nil _)))) (MSub.cons (by repeat (first | exact Pick.here _ | apply Pick.there)) (MSub.nil _)) ?_
  · skip
    exact ⟨Nat.zero_le _, by simp, by simp⟩
  · skip
    rintro ⟨k, cur⟩ ⟨hk, hlen, hdat⟩
    dsimp only at hk hlen hdat
    refine W_weaken (l' := [(0, _), (3, _), (4, _)]) (Sub.cons rfl (Sub.cons rfl (Sub.cons rfl (Sub.nil _)))) (M' := [_]) (MSub.cons (by repeat (first | exact Pick.here _ | apply Pick.there)) (MSub.nil _)) ?_
    refine W_seq ?_
    refine W_seq ?_
    refine W_region ?_
    refine L_move rfl rfl ?_
    refine L_move rfl rfl ?_
    refine L_lenS rfl rfl el28 ?_
    refine L_binV rfl rfl rfl bv_lss ?_
    refine L_nil ?_
    refine W_weaken (l' := [(0, _), (3, _), (4, _), (11, _)]) (Sub.cons rfl (Sub.cons rfl (Sub.cons rfl (Sub.cons rfl (Sub.nil _))))) (MSub.refl _) ?_
    refine W_cond rfl (fun hc3 => ?_) (fun hc3 => ?_)
    · skip
      have hk1 : k < x1.length := by simpa using hc3
      obtain ⟨g1, o1, rfl⟩ := rd_addr h1 hk1
      obtain ⟨u1, hu1⟩ := getEl hk1
      have hub : Bk.bulk u1 ≤ 1048576 := by have := bulk_mem (List.mem_of_getElem? hu1); omega
      refine W_skip ?_
      refine W_seq ?_
      refine W_block ?_
      refine W_region ?_
      refine L_move rfl rfl ?_
      refine L_move rfl rfl ?_
      refine L_move rfl rfl ?_
      refine L_move rfl rfl ?_
      refine L_indexAddr rfl rfl rfl el28 rfl (by omega) ?_
      refine L_load0 rfl rfl (by first | exact RdC.blk (by repeat (first | exact List.Mem.head _ | apply List.Mem.tail)) | exact RdC.old (Cells.el h1 rfl hu1)) one4 rfl ?_
      refine L_indexAddr rfl rfl rfl el28 rfl (by omega) ?_
      obtain ⟨u0, hu0⟩ := getEl (show k < cur.length by omega)
      refine L_storeElV u1 rfl rfl (by repeat (first | exact Pick.here _ | apply Pick.there)) rfl hu0 rfl (flat_bool _) (.inr ⟨one4, rfl⟩) ?_
      refine L_nil ?_
      refine W_region ?_
      refine L_move rfl rfl ?_
      refine L_binV rfl rfl rfl (bv_addR (by unfold inR; omega)) ?_
      refine L_assign rfl rfl ?_
      refine L_nil ?_
      refine ⟨(k + 1, cur.set k u1), (Sub.cons rfl (Sub.cons rfl (Sub.cons rfl (Sub.nil _)))), (MSub.cons (by repeat (first | exact Pick.here _ | apply Pick.there)) (MSub.nil _)), ?_, ?_⟩
      · skip
        exact ⟨by dsimp only; omega, by simpa using hlen, map_take_set GT.dat GT.dat hdat (by omega) hu1 rfl⟩
      · skip
        dsimp only; omega
    · skip
      refine W_exit ?_
      refine W_seq ?_
      refine W_region ?_
      refine L_move rfl rfl ?_
      refine L_assign rfl rfl ?_
      refine L_nil ?_
      refine W_ret ?_
      -- return 1 (R6)
      refine res1 rfl (ResOK.tmp rfl) ⟨⟨some ⟨g, 0, none⟩, x1.length, 4, cur, []⟩, ?_, ?_, rfl⟩ (MSub.cons (by repeat (first | exact Pick.here _ | apply Pick.there)) (MSub.nil _))
      · show _ = Value.slice _ cur.length _
        rw [hlen]
      · have hk2 : x1.length ≤ k := by simpa using hc3
        rw [List.take_of_length_le (by omega), List.take_of_length_le (by omega)] at hdat
        exact hdat

theorem markBoolS_spec (w : World) (t1 : TL Bool) (k0 : Nat) (hk0 : 0 < k0) (hb : k0 + Mk.cnt t1 < 9223372036854775807) : Spec Tryz.prog 17 [t1.hdr, .int .i64 (k0 : Int)].toArray w [treeH t1] (fun v M => v = .int .i64 ((k0 + Mk.cnt t1 : Nat) : Int) ∧ M = [treeH (Mk.mkd k0 t1)]) := by
  obtain ⟨a1, c1, e1, x1, y1⟩ := t1
  replace hb : k0 + cnts x1 < 9223372036854775807 := hb
  dsimp only [TL.hdr]
  refine Spec.intro Tryz.func17 rfl Tryz.ntmps17 rfl ?_
  refine W_fact (fun w h => ow_facts (h.prs _ (List.mem_cons_self ..))) fun hF => ?_
  replace hF : x1.length ≤ 9223372036854775807 ∧ (0 < x1.length → ∃ g, a1 = some ⟨g, 0, none⟩) := hF
  refine W_seq ?_
  refine W_region ?_
  refine L_assign rfl rfl ?_
  refine L_nil ?_
  refine W_seq ?_
  refine W_seq ?_
  refine W_region ?_
  refine L_assign rfl rfl ?_
  refine L_nil ?_
  refine W_block ?_
  refine W_conv (M' := [treeH (⟨a1, c1, e1, half k0 0 x1, y1⟩ : TL Bool)]) (fun w h => by rw [half_zero]; exact h) ?_
  refine W_loopC (σ := Nat) 0 (fun (i : Nat) => [(1, .int .i64 ((k0 + cnts (x1.take i) : Nat) : Int)), (5, .int .i64 (i : Int))]) (fun (i : Nat) => [treeH (⟨a1, c1, e1, half k0 i x1, y1⟩ : TL Bool)]) (fun (i : Nat) => i ≤ x1.length) (fun (i : Nat) => x1.length - i) [(0, _)] [] ?_ (Sub.cons rfl (Sub.cons rfl (Sub.cons rfl (Sub.nil _)))) (MSub.cons (by repeat (first | exact Pick.here _ | apply Pick.there)) (MSub.nil _)) ?_
  · skip
    exact Nat.zero_le _
  · skip
    rintro i hi
    refine W_weaken (l' := [(0, _), (1, _), (5, _)]) (Sub.cons rfl (Sub.cons rfl (Sub.cons rfl (Sub.nil _)))) (M' := [_]) (MSub.cons (by repeat (first | exact Pick.here _ | apply Pick.there)) (MSub.nil _)) ?_
    refine W_seq ?_
    refine W_seq ?_
    refine W_region ?_
    refine L_move rfl rfl ?_
    refine L_move rfl rfl ?_
    refine L_lenS rfl rfl el28 ?_
    refine L_binV rfl rfl rfl bv_lss ?_
    refine L_nil ?_
    refine W_weaken (l' := [(0, _), (1, _), (5, _), (9, _)]) (Sub.cons rfl (Sub.cons rfl (Sub.cons rfl (Sub.cons rfl (Sub.nil _))))) (MSub.refl _) ?_
    refine W_cond rfl (fun hc2 => ?_) (fun hc2 => ?_)
    · skip
      have hk1 : i < x1.length := by simpa using hc2
      obtain ⟨g, rfl⟩ := hF.2 (by omega)
      obtain ⟨u, hu⟩ := getEl hk1
      have hs := cnts_take_succ hu
      have hle := cnts_take_le x1 (i + 1)
      have hlh := half_length k0 i x1
      try simp only [cnt_int, cnt_str, cnt_bool] at hs
      refine W_skip ?_
      refine W_seq ?_
      refine W_block ?_
      refine W_seq ?_
      refine W_region ?_
      refine L_move rfl rfl ?_
      refine L_move rfl rfl ?_
      refine L_move rfl rfl ?_
      refine L_binV rfl rfl rfl (bv_rem (by omega)) ?_
      refine L_binV rfl rfl rfl bv_eql ?_
      refine L_indexAddr rfl rfl rfl el28 rfl (by omega) ?_
      refine L_storeElV (decide ((((k0 + cnts (x1.take i)) : Nat) : Int).tmod 3 = 0)) rfl rfl (by repeat (first | exact Pick.here _ | apply Pick.there)) rfl (show ((half k0 i x1) : List Bool)[i]? = some (u : Bool) from half_get (k := k0) hu) rfl (flat_bool _) (.inr ⟨one4, rfl⟩) ?_
      refine L_nil ?_
      refine W_region ?_
      refine L_move rfl rfl ?_
      refine L_binV rfl rfl rfl (bv_addR (by unfold inR; omega)) ?_
      refine L_assign rfl rfl ?_
      refine L_nil ?_
      rw [show (((k0 + cnts (x1.take i)) : Nat) : Int) + 1 = (((k0 + cnts (x1.take i)) + 1 : Nat) : Int) from rfl]
      have hfin : ((half k0 i x1).set i (decide ((((k0 + cnts (x1.take i)) : Nat) : Int).tmod 3 = 0))) = half k0 (i + 1) x1 := by
        have h9 := half_set (k := k0) hu
        try simp only [mk_pair, mk_int, mk_str, mk_bool, cnt_pair, cnt_int, cnt_str, cnt_bool, ← Nat.add_assoc] at h9
        try simp only [List.set_set]
        exact h9
      refine W_conv (M' := treeH (⟨some ⟨g, 0, none⟩, c1, e1, (half k0 (i + 1) x1), y1⟩ : TL Bool) :: _) (fun w h => by rw [← hfin]; exact h) ?_
      have hE : ((k0 + cnts (x1.take i)) + 1) = k0 + cnts (x1.take (i + 1)) := by rw [hs]; (try simp only [cnt_pair, cnt_int, cnt_str, cnt_bool]); omega
      rw [hE]
      refine W_region ?_
      refine L_move rfl rfl ?_
      refine L_binV rfl rfl rfl (bv_addR (by unfold inR; omega)) ?_
      refine L_assign rfl rfl ?_
      refine L_nil ?_
      refine ⟨i + 1, (Sub.cons rfl (Sub.cons rfl (Sub.cons rfl (Sub.nil _)))), (MSub.cons (by repeat (first | exact Pick.here _ | apply Pick.there)) (MSub.nil _)), ?_, ?_⟩
      · skip
        show i + 1 ≤ x1.length
        omega
      · skip
        show x1.length - (i + 1) < x1.length - i
        omega
    · skip
      refine W_exit ?_
      refine W_seq ?_
      refine W_region ?_
      refine L_move rfl rfl ?_
      refine L_assign rfl rfl ?_
      refine L_nil ?_
      refine W_ret ?_
      -- return 1 (R6)
      have hk2 : x1.length ≤ i := by simpa using hc2
      rw [half_all k0 hk2]
      refine res1 rfl (ResOK.tmp rfl) ⟨?_, rfl⟩ (MSub.cons (by repeat (first | exact Pick.here _ | apply Pick.there)) (MSub.nil _))
      have hk2 : x1.length ≤ i := by simpa using hc2
      rw [List.take_of_length_le hk2]; rfl

end Go.Proofs.SL
