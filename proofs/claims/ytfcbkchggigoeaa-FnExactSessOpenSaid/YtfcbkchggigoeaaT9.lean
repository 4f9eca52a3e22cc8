import Derived.Test.YtfcbkchggigoeaaT4
import Derived.Test.YtfcbkchggigoeaaBaseD
namespace Go.Proofs.SL
open Go
theorem el22 : elOf Try.prog 22 = some (5, 1, 1, [.int .u8 0]) := by kernel_rfl
theorem und22 : Try.prog.underlying 22 = some (.slice 5) := by kernel_rfl
theorem und5 : Try.prog.underlying 5 = some (.int .u8) := by kernel_rfl
theorem und9 : Try.prog.underlying 9 = some (.string) := by kernel_rfl
theorem fn69 : IsFn Try.prog 69 := ⟨_, Try.func69, by kernel_rfl, rfl⟩
theorem fn55 : IsFn Try.prog 55 := ⟨_, Try.func55, by kernel_rfl, rfl⟩
theorem und3 : Try.prog.underlying 3 = some (.int .i64) := by kernel_rfl
theorem fn79 : IsFn Try.prog 79 := ⟨_, Try.func79, by kernel_rfl, rfl⟩
theorem fn71 : IsFn Try.prog 71 := ⟨_, Try.func71, by kernel_rfl, rfl⟩
theorem fn58 : IsFn Try.prog 58 := ⟨_, Try.func58, by kernel_rfl, rfl⟩
theorem markText_spec (w : World) (k0 : Nat) (hk0 : 0 < k0) (hm : k0 < 9223372036854775807) : Spec Try.prog 79 [.int .i64 (k0 : Int)].toArray w [] (IsV (.string (mtx k0))) := by
  refine Spec.intro Try.func79 rfl Try.ntmps79 rfl ?_
  refine W_seq ?_
  refine W_region ?_
  refine L_assign rfl rfl ?_
  refine L_nil ?_
  refine W_seq ?_
  refine W_seq ?_
  refine W_region ?_
  refine L_move rfl rfl ?_
  refine L_binV rfl rfl rfl bv_leq ?_
  refine L_nil ?_
  refine W_weaken (l' := [(0, _), (5, _)]) (Sub.cons rfl (Sub.cons rfl (Sub.nil _))) (MSub.refl _) ?_
  refine W_cond rfl (fun hc1 => ?_) (fun hc1 => ?_)
  · skip
    refine W_seq ?_
    refine W_region ?_
    refine L_assign rfl rfl ?_
    refine L_nil ?_
    refine W_ret ?_
    -- return 1 (R2)
    refine res1 rfl (ResOK.tmp rfl) ⟨?_, rfl⟩ (MSub.nil _)
    exfalso; simp at hc1; omega
  · skip
    refine W_skip ?_
    refine W_seq ?_
    refine W_region ?_
    refine L_assign rfl rfl ?_
    refine L_nil ?_
    refine W_seq ?_
    refine W_block ?_
    refine W_loopC (σ := Nat × ByteArray) (k0, ByteArray.mk #[]) (fun (p : Nat × ByteArray) => [(0, .int .i64 (p.1 : Int)), (3, .string p.2)]) (fun (p : Nat × ByteArray) => []) (fun (p : Nat × ByteArray) => mtxN p.1 p.2 = mtxN k0 (ByteArray.mk #[]) ∧ p.2.size + p.1 ≤ k0) (fun (p : Nat × ByteArray) => p.1) [] [] ?_ (Sub.cons rfl (Sub.cons rfl (Sub.nil _))) (MSub.nil _) ?_
    · skip
      refine ⟨rfl, ?_⟩
      show (ByteArray.mk #[]).size + k0 ≤ k0
      have : (ByteArray.mk #[]).size = 0 := rfl
      omega
    · skip
      rintro ⟨k, s⟩ ⟨hs, hz⟩
      refine W_weaken (l' := [(0, _), (3, _)]) (Sub.cons rfl (Sub.cons rfl (Sub.nil _))) (M' := []) (MSub.nil _) ?_
      refine W_seq ?_
      refine W_seq ?_
      refine W_region ?_
      refine L_move rfl rfl ?_
      refine L_binV rfl rfl rfl bv_gtr ?_
      refine L_nil ?_
      refine W_weaken (l' := [(0, _), (3, _), (7, _)]) (Sub.cons rfl (Sub.cons rfl (Sub.cons rfl (Sub.nil _)))) (MSub.refl _) ?_
      refine W_cond rfl (fun hc4 => ?_) (fun hc4 => ?_)
      · skip
        have hkp : 0 < k := by simpa using hc4
        refine W_skip ?_
        refine W_block ?_
        refine W_seq ?_
        refine W_region ?_
        refine L_move rfl rfl ?_
        refine L_binV rfl rfl rfl (bv_remN k 10 (by omega)) ?_
        refine L_binV rfl rfl rfl (bv_addR (by unfold inR; omega)) ?_
        refine L_convInt rfl rfl und5 (by rw [und3]; rfl) ?_
        refine L_buildSlice1 rfl rfl el22 rfl (by decide) (by decide) rfl (fun bb => ?_)
        refine L_bytesToStr (ns := [IntKind.u8.wrap (48 + ((k % 10 : Nat) : Int))]) rfl rfl und22 und5 und9 (RdC.blk (by repeat (first | exact List.Mem.head _ | apply List.Mem.tail))) rfl rfl ?_
        refine L_move rfl rfl ?_
        refine L_binV rfl rfl rfl (bv_sadd (by rw [strOf_size1]; omega)) ?_
        refine L_assign rfl rfl ?_
        refine L_nil ?_
        refine W_region ?_
        refine L_move rfl rfl ?_
        refine L_binV rfl rfl rfl (bv_quoN k 10 (by omega) (by omega)) ?_
        refine L_assign rfl rfl ?_
        refine L_nil ?_
        refine ⟨(k / 10, dg k ++ s), (Sub.cons rfl (Sub.cons rfl (Sub.nil _))), (MSub.nil _), ?_, ?_⟩
        · skip
          refine ⟨?_, ?_⟩
          · rw [← hs]; exact (mtxN_step s hkp).symm
          · dsimp only at hz ⊢
            rw [ByteArray.size_append, dg_size]; omega
        · skip
          dsimp only; omega
      · skip
        refine W_exit ?_
        refine W_seq ?_
        have hd1 : ({ data := #[109] } : ByteArray).size = 1 := rfl
        dsimp only at hz
        refine W_region ?_
        refine L_move rfl rfl ?_
        refine L_binV rfl rfl rfl (bv_sadd (by (try dsimp only); omega)) ?_
        refine L_assign rfl rfl ?_
        refine L_nil ?_
        refine W_ret ?_
        -- return 2 (R7)
        refine res1 rfl (ResOK.tmp rfl) ⟨?_, rfl⟩ (MSub.nil _)
        have hk2 : k = 0 := by simp at hc4; omega
        subst hk2
        dsimp only at hs
        rw [mtxN_zero] at hs
        exact congrArg Value.string (by rw [hs]; rfl)

theorem markIntS_spec (w : World) (t1 : TL Int) (k0 : Nat) (hk0 : 0 < k0) (hb : k0 + Mk.cnt t1 < 9223372036854775807) : Spec Try.prog 30 [t1.hdr, .int .i64 (k0 : Int)].toArray w [treeH t1] (fun v M => v = .int .i64 ((k0 + Mk.cnt t1 : Nat) : Int) ∧ M = [treeH (Mk.mkd k0 t1)]) := by
  obtain ⟨a1, c1, e1, x1, y1⟩ := t1
  replace hb : k0 + cnts x1 < 9223372036854775807 := hb
  dsimp only [TL.hdr]
  refine Spec.intro Try.func30 rfl Try.ntmps30 rfl ?_
  refine W_fact (fun w h => ow_facts (h.prs _ (List.mem_cons_self ..))) fun hF => ?_
  replace hF : x1.length ≤ 9223372036854775807 ∧ (0 < x1.length → ∃ g, a1 = some ⟨g, 0, none⟩) := hF
  refine W_seq ?_
  refine W_region ?_
  refine L_assign rfl rfl ?_
  refine L_nil ?_
  refine W_seq ?_
  refine W_seq ?_
  refine W_region ?_
  refine L_assign rfl rfl ?_
  refine L_nil ?_
  refine W_block ?_
  refine W_conv (M' := [treeH (⟨a1, c1, e1, half k0 0 x1, y1⟩ : TL Int)]) (fun w h => by rw [half_zero]; exact h) ?_
  refine W_loopC (σ := Nat) 0 (fun (i : Nat) => [(1, .int .i64 ((k0 + cnts (x1.take i) : Nat) : Int)), (5, .int .i64 (i : Int))]) (fun (i : Nat) => [treeH (⟨a1, c1, e1, half k0 i x1, y1⟩ : TL Int)]) (fun (i : Nat) => i ≤ x1.length) (fun (i : Nat) => x1.length - i) [(0, _)] [] ?_ (Sub.cons rfl (Sub.cons rfl (Sub.cons rfl (Sub.nil _)))) (MSub.cons (by repeat (first | exact Pick.here _ | apply Pick.there)) (MSub.nil _)) ?_
  · skip
    exact Nat.zero_le _
  · skip
    rintro i hi
    refine W_weaken (l' := [(0, _), (1, _), (5, _)]) (Sub.cons rfl (Sub.cons rfl (Sub.cons rfl (Sub.nil _)))) (M' := [_]) (MSub.cons (by repeat (first | exact Pick.here _ | apply Pick.there)) (MSub.nil _)) ?_
    refine W_seq ?_
    refine W_seq ?_
    refine W_region ?_
    refine L_move rfl rfl ?_
    refine L_move rfl rfl ?_
    refine L_lenS rfl rfl el56 ?_
    refine L_binV rfl rfl rfl bv_lss ?_
    refine L_nil ?_
    refine W_weaken (l' := [(0, _), (1, _), (5, _), (9, _)]) (Sub.cons rfl (Sub.cons rfl (Sub.cons rfl (Sub.cons rfl (Sub.nil _))))) (MSub.refl _) ?_
    refine W_cond rfl (fun hc2 => ?_) (fun hc2 => ?_)
    · skip
      have hk1 : i < x1.length := by simpa using hc2
      obtain ⟨g, rfl⟩ := hF.2 (by omega)
      obtain ⟨u, hu⟩ := getEl hk1
      have hs := cnts_take_succ hu
      have hle := cnts_take_le x1 (i + 1)
      have hlh := half_length k0 i x1
      try simp only [cnt_int, cnt_str] at hs
      refine W_skip ?_
      refine W_seq ?_
      refine W_block ?_
      refine W_seq ?_
      refine W_region ?_
      refine L_move rfl rfl ?_
      refine L_move rfl rfl ?_
      refine L_move rfl rfl ?_
      refine L_indexAddr rfl rfl rfl el56 rfl (by omega) ?_
      refine L_storeElV (((k0 + cnts (x1.take i)) : Nat) : Int) rfl rfl (by repeat (first | exact Pick.here _ | apply Pick.there)) rfl (show ((half k0 i x1) : List Int)[i]? = some (u : Int) from half_get (k := k0) hu) rfl (flat_int (by unfold inR; omega)) (.inr ⟨one3, rfl⟩) ?_
      refine L_nil ?_
      refine W_region ?_
      refine L_move rfl rfl ?_
      refine L_binV rfl rfl rfl (bv_addR (by unfold inR; omega)) ?_
      refine L_assign rfl rfl ?_
      refine L_nil ?_
      rw [show (((k0 + cnts (x1.take i)) : Nat) : Int) + 1 = (((k0 + cnts (x1.take i)) + 1 : Nat) : Int) from rfl]
      have hfin : ((half k0 i x1).set i (((k0 + cnts (x1.take i)) : Nat) : Int)) = half k0 (i + 1) x1 := by
        have h9 := half_set (k := k0) hu
        try simp only [mk_pair, mk_int, mk_str, cnt_pair, cnt_int, cnt_str, ← Nat.add_assoc] at h9
        try simp only [List.set_set]
        exact h9
      refine W_conv (M' := treeH (⟨some ⟨g, 0, none⟩, c1, e1, (half k0 (i + 1) x1), y1⟩ : TL Int) :: _) (fun w h => by rw [← hfin]; exact h) ?_
      have hE : ((k0 + cnts (x1.take i)) + 1) = k0 + cnts (x1.take (i + 1)) := by rw [hs]; (try simp only [cnt_pair, cnt_int, cnt_str]); omega
      rw [hE]
      refine W_region ?_
      refine L_move rfl rfl ?_
      refine L_binV rfl rfl rfl (bv_addR (by unfold inR; omega)) ?_
      refine L_assign rfl rfl ?_
      refine L_nil ?_
      refine ⟨i + 1, (Sub.cons rfl (Sub.cons rfl (Sub.cons rfl (Sub.nil _)))), (MSub.cons (by repeat (first | exact Pick.here _ | apply Pick.there)) (MSub.nil _)), ?_, ?_⟩
      · skip
        show i + 1 ≤ x1.length
        omega
      · skip
        show x1.length - (i + 1) < x1.length - i
        omega
    · skip
      refine W_exit ?_
      refine W_seq ?_
      refine W_region ?_
      refine L_move rfl rfl ?_
      refine L_assign rfl rfl ?_
      refine L_nil ?_
      refine W_ret ?_
      -- return 1 (R6)
      have hk2 : x1.length ≤ i := by simpa using hc2
      rw [half_all k0 hk2]
      refine res1 rfl (ResOK.tmp rfl) ⟨?_, rfl⟩ (MSub.cons (by repeat (first | exact Pick.here _ | apply Pick.there)) (MSub.nil _))
      have hk2 : x1.length ≤ i := by simpa using hc2
      rw [List.take_of_length_le hk2]; rfl

theorem markStringS_spec (w : World) (t1 : TL ByteArray) (k0 : Nat) (hk0 : 0 < k0) (hb : k0 + Mk.cnt t1 < 9223372036854775807) : Spec Try.prog 69 [t1.hdr, .int .i64 (k0 : Int)].toArray w [treeH t1] (fun v M => v = .int .i64 ((k0 + Mk.cnt t1 : Nat) : Int) ∧ M = [treeH (Mk.mkd k0 t1)]) := by
  obtain ⟨a1, c1, e1, x1, y1⟩ := t1
  replace hb : k0 + cnts x1 < 9223372036854775807 := hb
  dsimp only [TL.hdr]
  refine Spec.intro Try.func69 rfl Try.ntmps69 rfl ?_
  refine W_fact (fun w h => ow_facts (h.prs _ (List.mem_cons_self ..))) fun hF => ?_
  replace hF : x1.length ≤ 9223372036854775807 ∧ (0 < x1.length → ∃ g, a1 = some ⟨g, 0, none⟩) := hF
  refine W_seq ?_
  refine W_region ?_
  refine L_assign rfl rfl ?_
  refine L_nil ?_
  refine W_seq ?_
  refine W_seq ?_
  refine W_region ?_
  refine L_assign rfl rfl ?_
  refine L_nil ?_
  refine W_block ?_
  refine W_conv (M' := [treeH (⟨a1, c1, e1, half k0 0 x1, y1⟩ : TL ByteArray)]) (fun w h => by rw [half_zero]; exact h) ?_
  refine W_loopC (σ := Nat) 0 (fun (i : Nat) => [(1, .int .i64 ((k0 + cnts (x1.take i) : Nat) : Int)), (5, .int .i64 (i : Int))]) (fun (i : Nat) => [treeH (⟨a1, c1, e1, half k0 i x1, y1⟩ : TL ByteArray)]) (fun (i : Nat) => i ≤ x1.length) (fun (i : Nat) => x1.length - i) [(0, _)] [] ?_ (Sub.cons rfl (Sub.cons rfl (Sub.cons rfl (Sub.nil _)))) (MSub.cons (by repeat (first | exact Pick.here _ | apply Pick.there)) (MSub.nil _)) ?_
  · skip
    exact Nat.zero_le _
  · skip
    rintro i hi
    refine W_weaken (l' := [(0, _), (1, _), (5, _)]) (Sub.cons rfl (Sub.cons rfl (Sub.cons rfl (Sub.nil _)))) (M' := [_]) (MSub.cons (by repeat (first | exact Pick.here _ | apply Pick.there)) (MSub.nil _)) ?_
    refine W_seq ?_
    refine W_seq ?_
    refine W_region ?_
    refine L_move rfl rfl ?_
    refine L_move rfl rfl ?_
    refine L_lenS rfl rfl el73 ?_
    refine L_binV rfl rfl rfl bv_lss ?_
    refine L_nil ?_
    refine W_weaken (l' := [(0, _), (1, _), (5, _), (9, _)]) (Sub.cons rfl (Sub.cons rfl (Sub.cons rfl (Sub.cons rfl (Sub.nil _))))) (MSub.refl _) ?_
    refine W_cond rfl (fun hc2 => ?_) (fun hc2 => ?_)
    · skip
      have hk1 : i < x1.length := by simpa using hc2
      obtain ⟨g, rfl⟩ := hF.2 (by omega)
      obtain ⟨u, hu⟩ := getEl hk1
      have hs := cnts_take_succ hu
      have hle := cnts_take_le x1 (i + 1)
      have hlh := half_length k0 i x1
      try simp only [cnt_int, cnt_str] at hs
      refine W_skip ?_
      refine W_seq ?_
      refine W_block ?_
      refine W_seq ?_
      refine W_region ?_
      refine L_move rfl rfl ?_
      refine L_move rfl rfl ?_
      refine L_move rfl rfl ?_
      refine L_callX rfl fn79 rfl (by exact fun w hw => markText_spec w (k0 + cnts (x1.take i)) (by omega) (by omega)) ?_
      refine L_indexAddr rfl rfl rfl el73 rfl (by omega) ?_
      refine L_storeElV (mtx (k0 + cnts (x1.take i))) rfl rfl (by repeat (first | exact Pick.here _ | apply Pick.there)) rfl (show ((half k0 i x1) : List ByteArray)[i]? = some (u : ByteArray) from half_get (k := k0) hu) rfl (flat_str (by have := mtx_size (k0 + cnts (x1.take i)); unfold okStr; omega)) (.inr ⟨one9, rfl⟩) ?_
      refine L_nil ?_
      refine W_region ?_
      refine L_move rfl rfl ?_
      refine L_binV rfl rfl rfl (bv_addR (by unfold inR; omega)) ?_
      refine L_assign rfl rfl ?_
      refine L_nil ?_
      rw [show (((k0 + cnts (x1.take i)) : Nat) : Int) + 1 = (((k0 + cnts (x1.take i)) + 1 : Nat) : Int) from rfl]
      have hfin : ((half k0 i x1).set i (mtx (k0 + cnts (x1.take i)))) = half k0 (i + 1) x1 := by
        have h9 := half_set (k := k0) hu
        try simp only [mk_pair, mk_int, mk_str, cnt_pair, cnt_int, cnt_str, ← Nat.add_assoc] at h9
        try simp only [List.set_set]
        exact h9
      refine W_conv (M' := treeH (⟨some ⟨g, 0, none⟩, c1, e1, (half k0 (i + 1) x1), y1⟩ : TL ByteArray) :: _) (fun w h => by rw [← hfin]; exact h) ?_
      have hE : ((k0 + cnts (x1.take i)) + 1) = k0 + cnts (x1.take (i + 1)) := by rw [hs]; (try simp only [cnt_pair, cnt_int, cnt_str]); omega
      rw [hE]
      refine W_region ?_
      refine L_move rfl rfl ?_
      refine L_binV rfl rfl rfl (bv_addR (by unfold inR; omega)) ?_
      refine L_assign rfl rfl ?_
      refine L_nil ?_
      refine ⟨i + 1, (Sub.cons rfl (Sub.cons rfl (Sub.cons rfl (Sub.nil _)))), (MSub.cons (by repeat (first | exact Pick.here _ | apply Pick.there)) (MSub.nil _)), ?_, ?_⟩
      · skip
        show i + 1 ≤ x1.length
        omega
      · skip
        show x1.length - (i + 1) < x1.length - i
        omega
    · skip
      refine W_exit ?_
      refine W_seq ?_
      refine W_region ?_
      refine L_move rfl rfl ?_
      refine L_assign rfl rfl ?_
      refine L_nil ?_
      refine W_ret ?_
      -- return 1 (R6)
      have hk2 : x1.length ≤ i := by simpa using hc2
      rw [half_all k0 hk2]
      refine res1 rfl (ResOK.tmp rfl) ⟨?_, rfl⟩ (MSub.cons (by repeat (first | exact Pick.here _ | apply Pick.there)) (MSub.nil _))
      have hk2 : x1.length ≤ i := by simpa using hc2
      rw [List.take_of_length_le hk2]; rfl

theorem heldIntS_spec (w : World) (t1 : TL Int) (k0 : Nat) (hk0 : 0 < k0) (hb : k0 + Mk.cnt t1 < 9223372036854775807) (h1 : GT.rd w [] (Mk.mkd k0 t1)) : Spec Try.prog 31 [(Mk.mkd k0 t1).hdr, .int .i64 (k0 : Int)].toArray w [] (IsV (.int .i64 ((k0 + Mk.cnt t1 : Nat) : Int))) := by
  obtain ⟨a1, c1, e1, x1, y1⟩ := t1
  replace hb : k0 + cnts x1 < 9223372036854775807 := hb
  have hml := mks_length x1 k0
  have hm1 : (mks k0 x1).length ≤ 9223372036854775807 := rd_len h1
  rw [mk_TL] at h1 ⊢
  dsimp only [TL.hdr]
  refine Spec.intro Try.func31 rfl Try.ntmps31 rfl ?_
  refine W_seq ?_
  refine W_region ?_
  refine L_assign rfl rfl ?_
  refine L_nil ?_
  refine W_seq ?_
  refine W_seq ?_
  refine W_region ?_
  refine L_assign rfl rfl ?_
  refine L_nil ?_
  refine W_block ?_
  refine W_loopC (σ := Nat) 0 (fun (i : Nat) => [(1, .int .i64 ((k0 + cnts (x1.take i) : Nat) : Int)), (5, .int .i64 (i : Int))]) (fun (i : Nat) => []) (fun (i : Nat) => i ≤ x1.length) (fun (i : Nat) => x1.length - i) [(0, _)] [] ?_ (Sub.cons rfl (Sub.cons rfl (Sub.cons rfl (Sub.nil _)))) (MSub.nil _) ?_
  · skip
    exact Nat.zero_le _
  · skip
    rintro i hi
    refine W_weaken (l' := [(0, _), (1, _), (5, _)]) (Sub.cons rfl (Sub.cons rfl (Sub.cons rfl (Sub.nil _)))) (M' := []) (MSub.nil _) ?_
    refine W_seq ?_
    refine W_seq ?_
    refine W_region ?_
    refine L_move rfl rfl ?_
    refine L_move rfl rfl ?_
    refine L_lenS rfl rfl el56 ?_
    refine L_binV rfl rfl rfl bv_lss ?_
    refine L_nil ?_
    refine W_weaken (l' := [(0, _), (1, _), (5, _), (9, _)]) (Sub.cons rfl (Sub.cons rfl (Sub.cons rfl (Sub.cons rfl (Sub.nil _))))) (MSub.refl _) ?_
    refine W_cond rfl (fun hc2 => ?_) (fun hc2 => ?_)
    · skip
      have hk1 : i < (mks k0 x1).length := by simpa using hc2
      obtain ⟨g, o1, rfl⟩ := rd_addr h1 hk1
      obtain ⟨u, hu⟩ := getEl (show i < x1.length by omega)
      have hs := cnts_take_succ hu
      have hle := cnts_take_le x1 (i + 1)
      have hu2 := mks_get (k := k0) hu
      try simp only [cnt_int, cnt_str] at hs
      refine W_skip ?_
      refine W_seq ?_
      refine W_block ?_
      refine W_seq ?_
      refine W_seq ?_
      refine W_region ?_
      refine L_move rfl rfl ?_
      refine L_move rfl rfl ?_
      refine L_indexAddr rfl rfl rfl el56 rfl (by omega) ?_
      refine L_load0 rfl rfl (by first | exact RdC.blk (by repeat (first | exact List.Mem.head _ | apply List.Mem.tail)) | exact RdC.old (Cells.el h1 rfl hu2)) one3 rfl ?_
      refine L_move rfl rfl ?_
      refine L_binV rfl rfl rfl bv_neq ?_
      refine L_nil ?_
      refine W_weaken (l' := [(0, _), (1, _), (5, _), (17, _)]) (Sub.cons rfl (Sub.cons rfl (Sub.cons rfl (Sub.cons rfl (Sub.nil _))))) (MSub.refl _) ?_
      refine W_cond rfl (fun hc4 => ?_) (fun hc4 => ?_)
      · skip
        refine W_seq ?_
        refine W_region ?_
        refine L_assign rfl rfl ?_
        refine L_nil ?_
        refine W_ret ?_
        -- return 1 (R5)
        refine res1 rfl (ResOK.tmp rfl) ⟨?_, rfl⟩ (MSub.nil _)
        exfalso; simp [mk_int, mk_str] at hc4
      · skip
        refine W_skip ?_
        refine W_region ?_
        refine L_move rfl rfl ?_
        refine L_binV rfl rfl rfl (bv_addR (by unfold inR; omega)) ?_
        refine L_assign rfl rfl ?_
        refine L_nil ?_
        rw [show (((k0 + cnts (x1.take i)) : Nat) : Int) + 1 = (((k0 + cnts (x1.take i)) + 1 : Nat) : Int) from rfl]
        have hE : ((k0 + cnts (x1.take i)) + 1) = k0 + cnts (x1.take (i + 1)) := by rw [hs]; (try simp only [cnt_pair, cnt_int, cnt_str]); omega
        rw [hE]
        refine W_region ?_
        refine L_move rfl rfl ?_
        refine L_binV rfl rfl rfl (bv_addR (by unfold inR; omega)) ?_
        refine L_assign rfl rfl ?_
        refine L_nil ?_
        refine ⟨i + 1, (Sub.cons rfl (Sub.cons rfl (Sub.cons rfl (Sub.nil _)))), (MSub.nil _), ?_, ?_⟩
        · skip
          show i + 1 ≤ x1.length
          omega
        · skip
          show x1.length - (i + 1) < x1.length - i
          omega
    · skip
      refine W_exit ?_
      refine W_seq ?_
      refine W_region ?_
      refine L_move rfl rfl ?_
      refine L_assign rfl rfl ?_
      refine L_nil ?_
      refine W_ret ?_
      -- return 2 (R7)
      refine res1 rfl (ResOK.tmp rfl) ⟨?_, rfl⟩ (MSub.nil _)
      have hk2 : (mks k0 x1).length ≤ i := by simpa using hc2
      rw [List.take_of_length_le (by omega)]; rfl

theorem heldStringS_spec (w : World) (t1 : TL ByteArray) (k0 : Nat) (hk0 : 0 < k0) (hb : k0 + Mk.cnt t1 < 9223372036854775807) (h1 : GT.rd w [] (Mk.mkd k0 t1)) : Spec Try.prog 71 [(Mk.mkd k0 t1).hdr, .int .i64 (k0 : Int)].toArray w [] (IsV (.int .i64 ((k0 + Mk.cnt t1 : Nat) : Int))) := by
  obtain ⟨a1, c1, e1, x1, y1⟩ := t1
  replace hb : k0 + cnts x1 < 9223372036854775807 := hb
  have hml := mks_length x1 k0
  have hm1 : (mks k0 x1).length ≤ 9223372036854775807 := rd_len h1
  rw [mk_TL] at h1 ⊢
  dsimp only [TL.hdr]
  refine Spec.intro Try.func71 rfl Try.ntmps71 rfl ?_
  refine W_seq ?_
  refine W_region ?_
  refine L_assign rfl rfl ?_
  refine L_nil ?_
  refine W_seq ?_
  refine W_seq ?_
  refine W_region ?_
  refine L_assign rfl rfl ?_
  refine L_nil ?_
  refine W_block ?_
  refine W_loopC (σ := Nat) 0 (fun (i : Nat) => [(1, .int .i64 ((k0 + cnts (x1.take i) : Nat) : Int)), (5, .int .i64 (i : Int))]) (fun (i : Nat) => []) (fun (i : Nat) => i ≤ x1.length) (fun (i : Nat) => x1.length - i) [(0, _)] [] ?_ (Sub.cons rfl (Sub.cons rfl (Sub.cons rfl (Sub.nil _)))) (MSub.nil _) ?_
  · skip
    exact Nat.zero_le _
  · skip
    rintro i hi
    refine W_weaken (l' := [(0, _), (1, _), (5, _)]) (Sub.cons rfl (Sub.cons rfl (Sub.cons rfl (Sub.nil _)))) (M' := []) (MSub.nil _) ?_
    refine W_seq ?_
    refine W_seq ?_
    refine W_region ?_
    refine L_move rfl rfl ?_
    refine L_move rfl rfl ?_
    refine L_lenS rfl rfl el73 ?_
    refine L_binV rfl rfl rfl bv_lss ?_
    refine L_nil ?_
    refine W_weaken (l' := [(0, _), (1, _), (5, _), (9, _)]) (Sub.cons rfl (Sub.cons rfl (Sub.cons rfl (Sub.cons rfl (Sub.nil _))))) (MSub.refl _) ?_
    refine W_cond rfl (fun hc2 => ?_) (fun hc2 => ?_)
    · skip
      have hk1 : i < (mks k0 x1).length := by simpa using hc2
      obtain ⟨g, o1, rfl⟩ := rd_addr h1 hk1
      obtain ⟨u, hu⟩ := getEl (show i < x1.length by omega)
      have hs := cnts_take_succ hu
      have hle := cnts_take_le x1 (i + 1)
      have hu2 := mks_get (k := k0) hu
      try simp only [cnt_int, cnt_str] at hs
      refine W_skip ?_
      refine W_seq ?_
      refine W_block ?_
      refine W_seq ?_
      refine W_seq ?_
      refine W_D0 [18] mix (by kernel_rfl) rfl ?_
      refine D_move GC.none (OpV.t rfl) ?_
      refine D_move GC.none (OpV.t rfl) ?_
      refine D_indexAddr _ GC.none (OpV.t rfl) (OpV.t rfl) el73 (fun hg => ⟨rfl, by (try dsimp only); omega⟩) ?_
      refine D_load0 GC.none (OpV.t rfl) (fun hg => (by first | exact RdC.blk (by repeat (first | exact List.Mem.head _ | apply List.Mem.tail)) | exact RdC.old (Cells.el h1 rfl hu2))) one9 rfl ?_
      refine D_move GC.none (OpV.t rfl) ?_
      refine D_callX GC.none fn79 (OpVs.cons (OpV.t rfl) (OpVs.nil)) (by exact fun hg w F hF hM => (fun w hw => markText_spec w (k0 + cnts (x1.take i)) (by omega) (by omega)) w hF) ?_
      refine D_bin GC.none (OpV.t rfl) (OpV.t rfl) (fun hg => bv_sneq) ?_
      refine DV_nil ?_
      refine Give_is rfl rfl ?_
      refine Give_drop rfl ?_
      refine Give_drop rfl ?_
      refine Give_drop rfl ?_
      refine Give_drop rfl ?_
      refine Give_drop rfl ?_
      refine Give_drop rfl ?_
      refine Give_nil ?_
      refine W_weaken (l' := [(0, _), (1, _), (5, _), (18, _)]) (Sub.cons rfl (Sub.cons rfl (Sub.cons rfl (Sub.cons rfl (Sub.nil _))))) (MSub.refl _) ?_
      refine W_cond rfl (fun hc4 => ?_) (fun hc4 => ?_)
      · skip
        refine W_seq ?_
        refine W_region ?_
        refine L_assign rfl rfl ?_
        refine L_nil ?_
        refine W_ret ?_
        -- return 1 (R5)
        refine res1 rfl (ResOK.tmp rfl) ⟨?_, rfl⟩ (MSub.nil _)
        exfalso; simp [mk_int, mk_str] at hc4
      · skip
        refine W_skip ?_
        refine W_region ?_
        refine L_move rfl rfl ?_
        refine L_binV rfl rfl rfl (bv_addR (by unfold inR; omega)) ?_
        refine L_assign rfl rfl ?_
        refine L_nil ?_
        rw [show (((k0 + cnts (x1.take i)) : Nat) : Int) + 1 = (((k0 + cnts (x1.take i)) + 1 : Nat) : Int) from rfl]
        have hE : ((k0 + cnts (x1.take i)) + 1) = k0 + cnts (x1.take (i + 1)) := by rw [hs]; (try simp only [cnt_pair, cnt_int, cnt_str]); omega
        rw [hE]
        refine W_region ?_
        refine L_move rfl rfl ?_
        refine L_binV rfl rfl rfl (bv_addR (by unfold inR; omega)) ?_
        refine L_assign rfl rfl ?_
        refine L_nil ?_
        refine ⟨i + 1, (Sub.cons rfl (Sub.cons rfl (Sub.cons rfl (Sub.nil _)))), (MSub.nil _), ?_, ?_⟩
        · skip
          show i + 1 ≤ x1.length
          omega
        · skip
          show x1.length - (i + 1) < x1.length - i
          omega
    · skip
      refine W_exit ?_
      refine W_seq ?_
      refine W_region ?_
      refine L_move rfl rfl ?_
      refine L_assign rfl rfl ?_
      refine L_nil ?_
      refine W_ret ?_
      -- return 2 (R7)
      refine res1 rfl (ResOK.tmp rfl) ⟨?_, rfl⟩ (MSub.nil _)
      have hk2 : (mks k0 x1).length ≤ i := by simpa using hc2
      rw [List.take_of_length_le (by omega)]; rfl

theorem markSessS_spec (w : World) (t1 : TL T_Sess) (k0 : Nat) (hk0 : 0 < k0) (hb : k0 + Mk.cnt t1 < 9223372036854775807) : Spec Try.prog 55 [t1.hdr, .int .i64 (k0 : Int)].toArray w [treeH t1] (fun v M => v = .int .i64 ((k0 + Mk.cnt t1 : Nat) : Int) ∧ M = [treeH (Mk.mkd k0 t1)]) := by
  obtain ⟨a1, c1, e1, x1, y1⟩ := t1
  replace hb : k0 + cnts x1 < 9223372036854775807 := hb
  dsimp only [TL.hdr]
  refine Spec.intro Try.func55 rfl Try.ntmps55 rfl ?_
  refine W_fact (fun w h => ow_facts (h.prs _ (List.mem_cons_self ..))) fun hF => ?_
  replace hF : x1.length ≤ 9223372036854775807 ∧ (0 < x1.length → ∃ g, a1 = some ⟨g, 0, none⟩) := hF
  refine W_seq ?_
  refine W_region ?_
  refine L_assign rfl rfl ?_
  refine L_nil ?_
  refine W_seq ?_
  refine W_seq ?_
  refine W_region ?_
  refine L_assign rfl rfl ?_
  refine L_nil ?_
  refine W_block ?_
  refine W_conv (M' := [treeH (⟨a1, c1, e1, half k0 0 x1, y1⟩ : TL T_Sess)]) (fun w h => by rw [half_zero]; exact h) ?_
  refine W_loopC (σ := Nat) 0 (fun (i : Nat) => [(1, .int .i64 ((k0 + cnts (x1.take i) : Nat) : Int)), (5, .int .i64 (i : Int))]) (fun (i : Nat) => [treeH (⟨a1, c1, e1, half k0 i x1, y1⟩ : TL T_Sess)]) (fun (i : Nat) => i ≤ x1.length) (fun (i : Nat) => x1.length - i) [(0, _)] [] ?_ (Sub.cons rfl (Sub.cons rfl (Sub.cons rfl (Sub.nil _)))) (MSub.cons (by repeat (first | exact Pick.here _ | apply Pick.there)) (MSub.nil _)) ?_
  · skip
    exact Nat.zero_le _
  · skip
    rintro i hi
    refine W_weaken (l' := [(0, _), (1, _), (5, _)]) (Sub.cons rfl (Sub.cons rfl (Sub.cons rfl (Sub.nil _)))) (M' := [_]) (MSub.cons (by repeat (first | exact Pick.here _ | apply Pick.there)) (MSub.nil _)) ?_
    refine W_seq ?_
    refine W_seq ?_
    refine W_region ?_
    refine L_move rfl rfl ?_
    refine L_move rfl rfl ?_
    refine L_lenS rfl rfl el39 ?_
    refine L_binV rfl rfl rfl bv_lss ?_
    refine L_nil ?_
    refine W_weaken (l' := [(0, _), (1, _), (5, _), (9, _)]) (Sub.cons rfl (Sub.cons rfl (Sub.cons rfl (Sub.cons rfl (Sub.nil _))))) (MSub.refl _) ?_
    refine W_cond rfl (fun hc2 => ?_) (fun hc2 => ?_)
    · skip
      have hk1 : i < x1.length := by simpa using hc2
      obtain ⟨g, rfl⟩ := hF.2 (by omega)
      obtain ⟨u, hu⟩ := getEl hk1
      have hs := cnts_take_succ hu
      have hle := cnts_take_le x1 (i + 1)
      have hlh := half_length k0 i x1
      obtain ⟨b1, b2, b3, b4⟩ := u
      simp only [cnt_pair, cnt_int, cnt_str] at hs
      refine W_skip ?_
      refine W_seq ?_
      refine W_block ?_
      refine W_seq ?_
      refine W_region ?_
      refine L_move rfl rfl ?_
      refine L_move rfl rfl ?_
      refine L_move rfl rfl ?_
      refine L_indexAddr rfl rfl rfl el39 rfl (by omega) ?_
      refine L_fieldAddr rfl rfl fld75_0 ?_
      refine L_storeElF (fo := 0) (x' := (((((k0 + cnts (x1.take i)) : Nat) : Int), b2, b3, b4) : T_Sess)) rfl rfl (by repeat (first | exact Pick.here _ | apply Pick.there)) rfl (show ((half k0 i x1) : List T_Sess)[i]? = some ((b1, b2, b3, b4) : T_Sess) from half_get (k := k0) hu) rfl rfl (by decide) rfl (fun w h => by exact ⟨(by show inR (((k0 + cnts (x1.take i)) : Nat) : Int); unfold inR; omega), h.2.1, h.2.2.1, h.2.2.2⟩) one3 ?_
      refine L_nil ?_
      refine W_seq ?_
      refine W_region ?_
      refine L_move rfl rfl ?_
      refine L_binV rfl rfl rfl (bv_addR (by unfold inR; omega)) ?_
      refine L_assign rfl rfl ?_
      refine L_nil ?_
      rw [show (((k0 + cnts (x1.take i)) : Nat) : Int) + 1 = (((k0 + cnts (x1.take i)) + 1 : Nat) : Int) from rfl]
      refine W_seq ?_
      refine W_region ?_
      refine L_move rfl rfl ?_
      refine L_move rfl rfl ?_
      refine L_move rfl rfl ?_
      refine L_indexAddr rfl rfl rfl el39 rfl (by omega) ?_
      refine L_fieldAddr rfl rfl fld75_1 ?_
      refine L_storeElF (fo := 1) (x' := (((((k0 + cnts (x1.take i)) : Nat) : Int), ((((k0 + cnts (x1.take i)) + 1) : Nat) : Int), b3, b4) : T_Sess)) rfl rfl (by repeat (first | exact Pick.here _ | apply Pick.there)) rfl (show (((half k0 i x1).set i (((((k0 + cnts (x1.take i)) : Nat) : Int), b2, b3, b4) : T_Sess)) : List T_Sess)[i]? = some (((((k0 + cnts (x1.take i)) : Nat) : Int), b2, b3, b4) : T_Sess) from set_get (half_get (k := k0) hu)) rfl rfl (by decide) rfl (fun w h => by exact ⟨h.1, (by show inR ((((k0 + cnts (x1.take i)) + 1) : Nat) : Int); unfold inR; omega), h.2.2.1, h.2.2.2⟩) one3 ?_
      refine L_nil ?_
      refine W_seq ?_
      refine W_region ?_
      refine L_move rfl rfl ?_
      refine L_binV rfl rfl rfl (bv_addR (by unfold inR; omega)) ?_
      refine L_assign rfl rfl ?_
      refine L_nil ?_
      rw [show ((((k0 + cnts (x1.take i)) + 1) : Nat) : Int) + 1 = ((((k0 + cnts (x1.take i)) + 1) + 1 : Nat) : Int) from rfl]
      refine W_seq ?_
      refine W_region ?_
      refine L_move rfl rfl ?_
      refine L_move rfl rfl ?_
      refine L_move rfl rfl ?_
      refine L_indexAddr rfl rfl rfl el39 rfl (by omega) ?_
      refine L_fieldAddr rfl rfl fld75_2 ?_
      refine L_storeElF (fo := 2) (x' := (((((k0 + cnts (x1.take i)) : Nat) : Int), ((((k0 + cnts (x1.take i)) + 1) : Nat) : Int), (((((k0 + cnts (x1.take i)) + 1) + 1) : Nat) : Int), b4) : T_Sess)) rfl rfl (by repeat (first | exact Pick.here _ | apply Pick.there)) rfl (show ((((half k0 i x1).set i (((((k0 + cnts (x1.take i)) : Nat) : Int), b2, b3, b4) : T_Sess)).set i (((((k0 + cnts (x1.take i)) : Nat) : Int), ((((k0 + cnts (x1.take i)) + 1) : Nat) : Int), b3, b4) : T_Sess)) : List T_Sess)[i]? = some (((((k0 + cnts (x1.take i)) : Nat) : Int), ((((k0 + cnts (x1.take i)) + 1) : Nat) : Int), b3, b4) : T_Sess) from set_get (set_get (half_get (k := k0) hu))) rfl rfl (by decide) rfl (fun w h => by exact ⟨h.1, h.2.1, (by show inR (((((k0 + cnts (x1.take i)) + 1) + 1) : Nat) : Int); unfold inR; omega), h.2.2.2⟩) one3 ?_
      refine L_nil ?_
      refine W_seq ?_
      refine W_region ?_
      refine L_move rfl rfl ?_
      refine L_binV rfl rfl rfl (bv_addR (by unfold inR; omega)) ?_
      refine L_assign rfl rfl ?_
      refine L_nil ?_
      rw [show (((((k0 + cnts (x1.take i)) + 1) + 1) : Nat) : Int) + 1 = (((((k0 + cnts (x1.take i)) + 1) + 1) + 1 : Nat) : Int) from rfl]
      refine W_region ?_
      refine L_move rfl rfl ?_
      refine L_move rfl rfl ?_
      refine L_indexAddr rfl rfl rfl el39 rfl (by omega) ?_
      refine L_fieldAddr rfl rfl fld75_3 ?_
      refine L_load rfl rfl (by exact RdC.el (L := (⟨some ⟨g, 0, none⟩, c1, e1, ((((half k0 i x1).set i (((((k0 + cnts (x1.take i)) : Nat) : Int), b2, b3, b4) : T_Sess)).set i (((((k0 + cnts (x1.take i)) : Nat) : Int), ((((k0 + cnts (x1.take i)) + 1) : Nat) : Int), b3, b4) : T_Sess)).set i (((((k0 + cnts (x1.take i)) : Nat) : Int), ((((k0 + cnts (x1.take i)) + 1) : Nat) : Int), (((((k0 + cnts (x1.take i)) + 1) + 1) : Nat) : Int), b4) : T_Sess)), y1⟩ : TL T_Sess)) (by repeat (first | exact List.Mem.head _ | apply List.Mem.tail)) rfl (show (((((half k0 i x1).set i (((((k0 + cnts (x1.take i)) : Nat) : Int), b2, b3, b4) : T_Sess)).set i (((((k0 + cnts (x1.take i)) : Nat) : Int), ((((k0 + cnts (x1.take i)) + 1) : Nat) : Int), b3, b4) : T_Sess)).set i (((((k0 + cnts (x1.take i)) : Nat) : Int), ((((k0 + cnts (x1.take i)) + 1) : Nat) : Int), (((((k0 + cnts (x1.take i)) + 1) + 1) : Nat) : Int), b4) : T_Sess)) : List T_Sess)[i]? = some (((((k0 + cnts (x1.take i)) : Nat) : Int), ((((k0 + cnts (x1.take i)) + 1) : Nat) : Int), (((((k0 + cnts (x1.take i)) + 1) + 1) : Nat) : Int), b4) : T_Sess) from set_get (set_get (set_get (half_get (k := k0) hu))))) one73 rfl ?_
      refine L_move rfl rfl ?_
      refine L_conv (fun w h => (frontPick (Pick.there _ (Pick.here _)) (tree_pair (frontPick (Pick.there _ (Pick.here _)) (tree_pair (frontPick (Pick.there _ (Pick.here _)) (tree_pair (el_out (L := (⟨some ⟨g, 0, none⟩, c1, e1, ((((half k0 i x1).set i (((((k0 + cnts (x1.take i)) : Nat) : Int), b2, b3, b4) : T_Sess)).set i (((((k0 + cnts (x1.take i)) : Nat) : Int), ((((k0 + cnts (x1.take i)) + 1) : Nat) : Int), b3, b4) : T_Sess)).set i (((((k0 + cnts (x1.take i)) : Nat) : Int), ((((k0 + cnts (x1.take i)) + 1) : Nat) : Int), (((((k0 + cnts (x1.take i)) + 1) + 1) : Nat) : Int), b4) : T_Sess)), y1⟩ : TL T_Sess)) (show (((((half k0 i x1).set i (((((k0 + cnts (x1.take i)) : Nat) : Int), b2, b3, b4) : T_Sess)).set i (((((k0 + cnts (x1.take i)) : Nat) : Int), ((((k0 + cnts (x1.take i)) + 1) : Nat) : Int), b3, b4) : T_Sess)).set i (((((k0 + cnts (x1.take i)) : Nat) : Int), ((((k0 + cnts (x1.take i)) + 1) : Nat) : Int), (((((k0 + cnts (x1.take i)) + 1) + 1) : Nat) : Int), b4) : T_Sess)) : List T_Sess)[i]? = some (((((k0 + cnts (x1.take i)) : Nat) : Int), ((((k0 + cnts (x1.take i)) + 1) : Nat) : Int), (((((k0 + cnts (x1.take i)) + 1) + 1) : Nat) : Int), b4) : T_Sess) from set_get (set_get (set_get (half_get (k := k0) hu)))) (frontPick (by repeat (first | exact Pick.here _ | apply Pick.there)) h))))))))) ?_
      refine L_call1 rfl fn69 rfl (Pick.here _) (by exact fun w hw => markStringS_spec w b4 ((((k0 + cnts (x1.take i)) + 1) + 1) + 1) (by omega) (by omega)) ?_
      rintro v M1 ⟨hv, rfl⟩
      subst hv
      simp only [List.cons_append, List.nil_append]
      refine L_conv (M' := treeH (⟨some ⟨g, 0, none⟩, c1, e1, (((((half k0 i x1).set i (((((k0 + cnts (x1.take i)) : Nat) : Int), b2, b3, b4) : T_Sess)).set i (((((k0 + cnts (x1.take i)) : Nat) : Int), ((((k0 + cnts (x1.take i)) + 1) : Nat) : Int), b3, b4) : T_Sess)).set i (((((k0 + cnts (x1.take i)) : Nat) : Int), ((((k0 + cnts (x1.take i)) + 1) : Nat) : Int), (((((k0 + cnts (x1.take i)) + 1) + 1) : Nat) : Int), b4) : T_Sess)).set i (((((k0 + cnts (x1.take i)) : Nat) : Int), ((((k0 + cnts (x1.take i)) + 1) : Nat) : Int), (((((k0 + cnts (x1.take i)) + 1) + 1) : Nat) : Int), (Mk.mkd ((((k0 + cnts (x1.take i)) + 1) + 1) + 1) b4)) : T_Sess)), y1⟩ : TL T_Sess) :: _) (fun w h => el_in (L := (⟨some ⟨g, 0, none⟩, c1, e1, ((((half k0 i x1).set i (((((k0 + cnts (x1.take i)) : Nat) : Int), b2, b3, b4) : T_Sess)).set i (((((k0 + cnts (x1.take i)) : Nat) : Int), ((((k0 + cnts (x1.take i)) + 1) : Nat) : Int), b3, b4) : T_Sess)).set i (((((k0 + cnts (x1.take i)) : Nat) : Int), ((((k0 + cnts (x1.take i)) + 1) : Nat) : Int), (((((k0 + cnts (x1.take i)) + 1) + 1) : Nat) : Int), b4) : T_Sess)), y1⟩ : TL T_Sess)) (show (((((half k0 i x1).set i (((((k0 + cnts (x1.take i)) : Nat) : Int), b2, b3, b4) : T_Sess)).set i (((((k0 + cnts (x1.take i)) : Nat) : Int), ((((k0 + cnts (x1.take i)) + 1) : Nat) : Int), b3, b4) : T_Sess)).set i (((((k0 + cnts (x1.take i)) : Nat) : Int), ((((k0 + cnts (x1.take i)) + 1) : Nat) : Int), (((((k0 + cnts (x1.take i)) + 1) + 1) : Nat) : Int), b4) : T_Sess)) : List T_Sess)[i]? = some (((((k0 + cnts (x1.take i)) : Nat) : Int), ((((k0 + cnts (x1.take i)) + 1) : Nat) : Int), (((((k0 + cnts (x1.take i)) + 1) + 1) : Nat) : Int), b4) : T_Sess) from set_get (set_get (set_get (half_get (k := k0) hu)))) (by simp only [cells_pair, cells_mkTL]) (pairPick (Pick.here _) (pairPick (Pick.here _) (pairPick (Pick.here _) h)))) ?_
      refine L_assign rfl rfl ?_
      refine L_nil ?_
      have hfin : (((((half k0 i x1).set i (((((k0 + cnts (x1.take i)) : Nat) : Int), b2, b3, b4) : T_Sess)).set i (((((k0 + cnts (x1.take i)) : Nat) : Int), ((((k0 + cnts (x1.take i)) + 1) : Nat) : Int), b3, b4) : T_Sess)).set i (((((k0 + cnts (x1.take i)) : Nat) : Int), ((((k0 + cnts (x1.take i)) + 1) : Nat) : Int), (((((k0 + cnts (x1.take i)) + 1) + 1) : Nat) : Int), b4) : T_Sess)).set i (((((k0 + cnts (x1.take i)) : Nat) : Int), ((((k0 + cnts (x1.take i)) + 1) : Nat) : Int), (((((k0 + cnts (x1.take i)) + 1) + 1) : Nat) : Int), (Mk.mkd ((((k0 + cnts (x1.take i)) + 1) + 1) + 1) b4)) : T_Sess)) = half k0 (i + 1) x1 := by
        have h9 := half_set (k := k0) hu
        try simp only [mk_pair, mk_int, mk_str, cnt_pair, cnt_int, cnt_str, ← Nat.add_assoc] at h9
        try simp only [List.set_set]
        exact h9
      refine W_conv (M' := treeH (⟨some ⟨g, 0, none⟩, c1, e1, (half k0 (i + 1) x1), y1⟩ : TL T_Sess) :: _) (fun w h => by rw [← hfin]; exact h) ?_
      have hE : (((((k0 + cnts (x1.take i)) + 1) + 1) + 1) + Mk.cnt b4) = k0 + cnts (x1.take (i + 1)) := by rw [hs]; (try simp only [cnt_pair, cnt_int, cnt_str]); omega
      rw [hE]
      refine W_region ?_
      refine L_move rfl rfl ?_
      refine L_binV rfl rfl rfl (bv_addR (by unfold inR; omega)) ?_
      refine L_assign rfl rfl ?_
      refine L_nil ?_
      refine ⟨i + 1, (Sub.cons rfl (Sub.cons rfl (Sub.cons rfl (Sub.nil _)))), (MSub.cons (by repeat (first | exact Pick.here _ | apply Pick.there)) (MSub.nil _)), ?_, ?_⟩
      · skip
        show i + 1 ≤ x1.length
        omega
      · skip
        show x1.length - (i + 1) < x1.length - i
        omega
    · skip
      refine W_exit ?_
      refine W_seq ?_
      refine W_region ?_
      refine L_move rfl rfl ?_
      refine L_assign rfl rfl ?_
      refine L_nil ?_
      refine W_ret ?_
      -- return 1 (R11)
      have hk2 : x1.length ≤ i := by simpa using hc2
      rw [half_all k0 hk2]
      refine res1 rfl (ResOK.tmp rfl) ⟨?_, rfl⟩ (MSub.cons (by repeat (first | exact Pick.here _ | apply Pick.there)) (MSub.nil _))
      have hk2 : x1.length ≤ i := by simpa using hc2
      rw [List.take_of_length_le hk2]; rfl

theorem heldSessS_spec (w : World) (t1 : TL T_Sess) (k0 : Nat) (hk0 : 0 < k0) (hb : k0 + Mk.cnt t1 < 9223372036854775807) (h1 : GT.rd w [] (Mk.mkd k0 t1)) : Spec Try.prog 58 [(Mk.mkd k0 t1).hdr, .int .i64 (k0 : Int)].toArray w [] (IsV (.int .i64 ((k0 + Mk.cnt t1 : Nat) : Int))) := by
  obtain ⟨a1, c1, e1, x1, y1⟩ := t1
  replace hb : k0 + cnts x1 < 9223372036854775807 := hb
  have hml := mks_length x1 k0
  have hm1 : (mks k0 x1).length ≤ 9223372036854775807 := rd_len h1
  rw [mk_TL] at h1 ⊢
  dsimp only [TL.hdr]
  refine Spec.intro Try.func58 rfl Try.ntmps58 rfl ?_
  refine W_seq ?_
  refine W_region ?_
  refine L_assign rfl rfl ?_
  refine L_nil ?_
  refine W_seq ?_
  refine W_seq ?_
  refine W_region ?_
  refine L_assign rfl rfl ?_
  refine L_nil ?_
  refine W_block ?_
  refine W_loopC (σ := Nat) 0 (fun (i : Nat) => [(1, .int .i64 ((k0 + cnts (x1.take i) : Nat) : Int)), (5, .int .i64 (i : Int))]) (fun (i : Nat) => []) (fun (i : Nat) => i ≤ x1.length) (fun (i : Nat) => x1.length - i) [(0, _)] [] ?_ (Sub.cons rfl (Sub.cons rfl (Sub.cons rfl (Sub.nil _)))) (MSub.nil _) ?_
  · skip
    exact Nat.zero_le _
  · skip
    rintro i hi
    refine W_weaken (l' := [(0, _), (1, _), (5, _)]) (Sub.cons rfl (Sub.cons rfl (Sub.cons rfl (Sub.nil _)))) (M' := []) (MSub.nil _) ?_
    refine W_seq ?_
    refine W_seq ?_
    refine W_region ?_
    refine L_move rfl rfl ?_
    refine L_move rfl rfl ?_
    refine L_lenS rfl rfl el39 ?_
    refine L_binV rfl rfl rfl bv_lss ?_
    refine L_nil ?_
    refine W_weaken (l' := [(0, _), (1, _), (5, _), (9, _)]) (Sub.cons rfl (Sub.cons rfl (Sub.cons rfl (Sub.cons rfl (Sub.nil _))))) (MSub.refl _) ?_
    refine W_cond rfl (fun hc2 => ?_) (fun hc2 => ?_)
    · skip
      have hk1 : i < (mks k0 x1).length := by simpa using hc2
      obtain ⟨g, o1, rfl⟩ := rd_addr h1 hk1
      obtain ⟨u, hu⟩ := getEl (show i < x1.length by omega)
      have hs := cnts_take_succ hu
      have hle := cnts_take_le x1 (i + 1)
      have hu2 := mks_get (k := k0) hu
      obtain ⟨b1, b2, b3, b4⟩ := u
      simp only [mk_pair, mk_int, mk_str, cnt_pair, cnt_int, cnt_str, ← Nat.add_assoc] at hs hu2
      refine W_skip ?_
      refine W_seq ?_
      refine W_block ?_
      refine W_seq ?_
      refine W_seq ?_
      refine W_region ?_
      refine L_move rfl rfl ?_
      refine L_move rfl rfl ?_
      refine L_indexAddr rfl rfl rfl el39 rfl (by omega) ?_
      refine L_fieldAddr rfl rfl fld75_0 ?_
      refine L_load rfl rfl (by first | exact RdC.blk (by repeat (first | exact List.Mem.head _ | apply List.Mem.tail)) | exact RdC.old (Cells.el h1 rfl hu2)) one3 rfl ?_
      refine L_move rfl rfl ?_
      refine L_binV rfl rfl rfl bv_neq ?_
      refine L_nil ?_
      refine W_weaken (l' := [(0, _), (1, _), (5, _), (18, _)]) (Sub.cons rfl (Sub.cons rfl (Sub.cons rfl (Sub.cons rfl (Sub.nil _))))) (MSub.refl _) ?_
      refine W_cond rfl (fun hc4 => ?_) (fun hc4 => ?_)
      · skip
        refine W_seq ?_
        refine W_region ?_
        refine L_assign rfl rfl ?_
        refine L_nil ?_
        refine W_ret ?_
        -- return 1 (R5)
        refine res1 rfl (ResOK.tmp rfl) ⟨?_, rfl⟩ (MSub.nil _)
        exfalso; simp [mk_int, mk_str] at hc4
      · skip
        refine W_skip ?_
        refine W_seq ?_
        refine W_region ?_
        refine L_move rfl rfl ?_
        refine L_binV rfl rfl rfl (bv_addR (by unfold inR; omega)) ?_
        refine L_assign rfl rfl ?_
        refine L_nil ?_
        rw [show (((k0 + cnts (x1.take i)) : Nat) : Int) + 1 = (((k0 + cnts (x1.take i)) + 1 : Nat) : Int) from rfl]
        refine W_seq ?_
        refine W_seq ?_
        refine W_region ?_
        refine L_move rfl rfl ?_
        refine L_move rfl rfl ?_
        refine L_indexAddr rfl rfl rfl el39 rfl (by omega) ?_
        refine L_fieldAddr rfl rfl fld75_1 ?_
        refine L_load rfl rfl (by first | exact RdC.blk (by repeat (first | exact List.Mem.head _ | apply List.Mem.tail)) | exact RdC.old (Cells.el h1 rfl hu2)) one3 rfl ?_
        refine L_move rfl rfl ?_
        refine L_binV rfl rfl rfl bv_neq ?_
        refine L_nil ?_
        refine W_weaken (l' := [(0, _), (1, _), (5, _), (27, _)]) (Sub.cons rfl (Sub.cons rfl (Sub.cons rfl (Sub.cons rfl (Sub.nil _))))) (MSub.refl _) ?_
        refine W_cond rfl (fun hc7 => ?_) (fun hc7 => ?_)
        · skip
          refine W_seq ?_
          refine W_region ?_
          refine L_assign rfl rfl ?_
          refine L_nil ?_
          refine W_ret ?_
          -- return 2 (R8)
          refine res1 rfl (ResOK.tmp rfl) ⟨?_, rfl⟩ (MSub.nil _)
          exfalso; simp [mk_int, mk_str] at hc7
        · skip
          refine W_skip ?_
          refine W_seq ?_
          refine W_region ?_
          refine L_move rfl rfl ?_
          refine L_binV rfl rfl rfl (bv_addR (by unfold inR; omega)) ?_
          refine L_assign rfl rfl ?_
          refine L_nil ?_
          rw [show ((((k0 + cnts (x1.take i)) + 1) : Nat) : Int) + 1 = ((((k0 + cnts (x1.take i)) + 1) + 1 : Nat) : Int) from rfl]
          refine W_seq ?_
          refine W_seq ?_
          refine W_region ?_
          refine L_move rfl rfl ?_
          refine L_move rfl rfl ?_
          refine L_indexAddr rfl rfl rfl el39 rfl (by omega) ?_
          refine L_fieldAddr rfl rfl fld75_2 ?_
          refine L_load rfl rfl (by first | exact RdC.blk (by repeat (first | exact List.Mem.head _ | apply List.Mem.tail)) | exact RdC.old (Cells.el h1 rfl hu2)) one3 rfl ?_
          refine L_move rfl rfl ?_
          refine L_binV rfl rfl rfl bv_neq ?_
          refine L_nil ?_
          refine W_weaken (l' := [(0, _), (1, _), (5, _), (36, _)]) (Sub.cons rfl (Sub.cons rfl (Sub.cons rfl (Sub.cons rfl (Sub.nil _))))) (MSub.refl _) ?_
          refine W_cond rfl (fun hc10 => ?_) (fun hc10 => ?_)
          · skip
            refine W_seq ?_
            refine W_region ?_
            refine L_assign rfl rfl ?_
            refine L_nil ?_
            refine W_ret ?_
            -- return 3 (R11)
            refine res1 rfl (ResOK.tmp rfl) ⟨?_, rfl⟩ (MSub.nil _)
            exfalso; simp [mk_int, mk_str] at hc10
          · skip
            refine W_skip ?_
            refine W_seq ?_
            refine W_region ?_
            refine L_move rfl rfl ?_
            refine L_binV rfl rfl rfl (bv_addR (by unfold inR; omega)) ?_
            refine L_assign rfl rfl ?_
            refine L_nil ?_
            rw [show (((((k0 + cnts (x1.take i)) + 1) + 1) : Nat) : Int) + 1 = (((((k0 + cnts (x1.take i)) + 1) + 1) + 1 : Nat) : Int) from rfl]
            refine W_seq ?_
            refine W_region ?_
            refine L_move rfl rfl ?_
            refine L_move rfl rfl ?_
            refine L_indexAddr rfl rfl rfl el39 rfl (by omega) ?_
            refine L_fieldAddr rfl rfl fld75_3 ?_
            refine L_load rfl rfl (by first | exact RdC.blk (by repeat (first | exact List.Mem.head _ | apply List.Mem.tail)) | exact RdC.old (Cells.el h1 rfl hu2)) one73 rfl ?_
            refine L_move rfl rfl ?_
            refine L_callX rfl fn71 rfl (by exact fun w hw => heldStringS_spec w b4 ((((k0 + cnts (x1.take i)) + 1) + 1) + 1) (by omega) (by omega) (rd_carry (show GT.rd _ _ (Mk.mkd ((((k0 + cnts (x1.take i)) + 1) + 1) + 1) b4) from by have h9 := h1.2.2.1 _ (List.mem_of_getElem? hu2); (try simp only [mk_pair, mk_int, mk_str, cnt_pair, cnt_int, cnt_str, ← Nat.add_assoc] at h9); exact h9.2.2.2) hw)) ?_
            refine L_assign rfl rfl ?_
            refine L_nil ?_
            refine W_seq ?_
            refine W_region ?_
            refine L_move rfl rfl ?_
            refine L_binV rfl rfl rfl bv_lss ?_
            refine L_nil ?_
            refine W_weaken (l' := [(0, _), (1, _), (5, _), (47, _)]) (Sub.cons rfl (Sub.cons rfl (Sub.cons rfl (Sub.cons rfl (Sub.nil _))))) (MSub.refl _) ?_
            refine W_cond rfl (fun hc14 => ?_) (fun hc14 => ?_)
            · skip
              refine W_seq ?_
              refine W_region ?_
              refine L_assign rfl rfl ?_
              refine L_nil ?_
              refine W_ret ?_
              -- return 4 (R15)
              refine res1 rfl (ResOK.tmp rfl) ⟨?_, rfl⟩ (MSub.nil _)
              exfalso; simp at hc14; omega
            · skip
              refine W_skip ?_
              have hE : (((((k0 + cnts (x1.take i)) + 1) + 1) + 1) + Mk.cnt b4) = k0 + cnts (x1.take (i + 1)) := by rw [hs]; (try simp only [cnt_pair, cnt_int, cnt_str]); omega
              rw [hE]
              refine W_region ?_
              refine L_move rfl rfl ?_
              refine L_binV rfl rfl rfl (bv_addR (by unfold inR; omega)) ?_
              refine L_assign rfl rfl ?_
              refine L_nil ?_
              refine ⟨i + 1, (Sub.cons rfl (Sub.cons rfl (Sub.cons rfl (Sub.nil _)))), (MSub.nil _), ?_, ?_⟩
              · skip
                show i + 1 ≤ x1.length
                omega
              · skip
                show x1.length - (i + 1) < x1.length - i
                omega
    · skip
      refine W_exit ?_
      refine W_seq ?_
      refine W_region ?_
      refine L_move rfl rfl ?_
      refine L_assign rfl rfl ?_
      refine L_nil ?_
      refine W_ret ?_
      -- return 5 (R16)
      refine res1 rfl (ResOK.tmp rfl) ⟨?_, rfl⟩ (MSub.nil _)
      have hk2 : (mks k0 x1).length ≤ i := by simpa using hc2
      rw [List.take_of_length_le (by omega)]; rfl

theorem markDesks_spec (w : World) (t1 : T_Desks) (k0 : Nat) (hk0 : 0 < k0) (hb : k0 + Mv.cnt t1 < 9223372036854775807) : Spec Try.prog 29 [.agg (GT.cells t1).toArray, .int .i64 (k0 : Int)].toArray w [treeH t1] (fun v M => v = .int .i64 ((k0 + Mv.cnt t1 : Nat) : Int) ∧ M = [treeH (Mv.mkd k0 t1)]) := by
  obtain ⟨a1, a2, a3⟩ := t1
  simp only [mv_cnt_pair, mv_cnt_int, mv_cnt_bool, mv_cnt_str, mv_cnt_TL, mv_pair, mv_int, mv_bool, mv_str, mv_TL, Nat.zero_add, Nat.add_zero, ← Nat.add_assoc] at hb ⊢
  change Spec _ _ [Value.agg #[.int .i64 a1, .int .i64 a2, a3.hdr], .int .i64 (k0 : Int)].toArray w _ _
  refine Spec.intro Try.func29 rfl Try.ntmps29 rfl ?_
  refine W_seq ?_
  refine W_region ?_
  refine L_box rfl rfl (fun bk2 => ?_)
  refine L_assign rfl rfl ?_
  refine L_nil ?_
  refine W_seq ?_
  refine W_region ?_
  refine L_fieldAddr rfl rfl fld41_2 ?_
  refine L_load rfl rfl (by first | exact RdC.blk (by repeat (first | exact List.Mem.head _ | apply List.Mem.tail))) one39 rfl ?_
  refine L_move rfl rfl ?_
  refine L_conv (fun w h => show Holds _ _ _ w from (frontPick (Pick.there _ (Pick.here _)) (tree_pair (frontPick (Pick.there _ (Pick.here _)) (tree_pair (frontPick (x := treeH ((a1, a2, a3) : T_Desks)) (by repeat (first | exact Pick.here _ | apply Pick.there)) h)))))) ?_
  refine L_call1 rfl fn55 rfl (Pick.here _) (by exact fun w hw => markSessS_spec w a3 (k0) (by omega) (by omega)) ?_
  rintro v M1 ⟨hv, rfl⟩
  subst hv
  simp only [List.cons_append, List.nil_append]
  refine L_conv (M' := treeH ((a1, a2, (Mk.mkd k0 a3)) : T_Desks) :: _) (fun w h => (pairPick (Pick.here _) (pairPick (Pick.here _) h))) ?_
  refine L_assign rfl rfl ?_
  refine L_nil ?_
  refine W_seq ?_
  refine W_region ?_
  refine L_move rfl rfl ?_
  refine L_assign rfl rfl ?_
  refine L_nil ?_
  refine W_ret ?_
  -- return 1 (R2)
  refine res1 rfl (ResOK.tmp rfl) ⟨rfl, rfl⟩ (MSub.cons (by repeat (first | exact Pick.here _ | apply Pick.there)) (MSub.nil _))

theorem heldDesks_spec (w : World) (t1 : T_Desks) (k0 : Nat) (hk0 : 0 < k0) (hb : k0 + Mv.cnt t1 < 9223372036854775807) (h1 : GT.rd w [] (Mv.mkd k0 t1)) : Spec Try.prog 34 [.agg (GT.cells (Mv.mkd k0 t1)).toArray, .int .i64 (k0 : Int)].toArray w [] (IsV (.int .i64 ((k0 + Mv.cnt t1 : Nat) : Int))) := by
  obtain ⟨a1, a2, a3⟩ := t1
  simp only [mv_cnt_pair, mv_cnt_int, mv_cnt_bool, mv_cnt_str, mv_cnt_TL, mv_pair, mv_int, mv_bool, mv_str, mv_TL, Nat.zero_add, Nat.add_zero, ← Nat.add_assoc] at hb h1 ⊢
  refine Spec.intro Try.func34 rfl Try.ntmps34 rfl ?_
  refine W_seq ?_
  refine W_region ?_
  refine L_box rfl rfl (fun bk2 => ?_)
  refine L_assign rfl rfl ?_
  refine L_nil ?_
  refine W_seq ?_
  refine W_region ?_
  refine L_fieldAddr rfl rfl fld41_2 ?_
  refine L_load rfl rfl (by first | exact RdC.blk (by repeat (first | exact List.Mem.head _ | apply List.Mem.tail))) one39 rfl ?_
  refine L_move rfl rfl ?_
  refine L_callX rfl fn58 rfl (by exact fun w hw => heldSessS_spec w a3 (k0) (by omega) (by omega) (rd_carry h1.2.2 hw)) ?_
  refine L_assign rfl rfl ?_
  refine L_nil ?_
  refine W_seq ?_
  refine W_seq ?_
  refine W_region ?_
  refine L_move rfl rfl ?_
  refine L_binV rfl rfl rfl bv_lss ?_
  refine L_nil ?_
  refine W_weaken (l' := [(1, _), (10, _)]) (Sub.cons rfl (Sub.cons rfl (Sub.nil _))) (MSub.refl _) ?_
  refine W_cond rfl (fun hc2 => ?_) (fun hc2 => ?_)
  · skip
    refine W_seq ?_
    refine W_region ?_
    refine L_assign rfl rfl ?_
    refine L_nil ?_
    refine W_ret ?_
    -- return 1 (R3)
    refine res1 rfl (ResOK.tmp rfl) ⟨?_, rfl⟩ (MSub.nil _)
    exfalso; simp at hc2; omega
  · skip
    refine W_skip ?_
    refine W_seq ?_
    refine W_region ?_
    refine L_move rfl rfl ?_
    refine L_assign rfl rfl ?_
    refine L_nil ?_
    refine W_ret ?_
    -- return 2 (R4)
    refine res1 rfl (ResOK.tmp rfl) ⟨?_, rfl⟩ (MSub.nil _)
    rfl

end Go.Proofs.SL
