/- The families of the exact laws over the types that they are given: equality, size, copy, marks. -/
import Derived.Test.YtndhmnoehapdhaaDoorB2
import Derived.Test.YtndhmnoehapdhaaDoorRows
namespace Go.Proofs.SL
open Go
theorem el59 : elOf Tryd.prog 59 = some (5, 1, 1, [.int .u8 0]) := by kernel_rfl
theorem und59 : Tryd.prog.underlying 59 = some (.slice 5) := by kernel_rfl
theorem und5 : Tryd.prog.underlying 5 = some (.int .u8) := by kernel_rfl
theorem und9 : Tryd.prog.underlying 9 = some (.string) := by kernel_rfl
theorem und3 : Tryd.prog.underlying 3 = some (.int .i64) := by kernel_rfl
theorem markText_spec (w : World) (k0 : Nat) (hk0 : 0 < k0) (hm : k0 < 9223372036854775807) : Spec Tryd.prog 104 [.int .i64 (k0 : Int)].toArray w [] (IsV (.string (mtx k0))) := by
  refine Spec.intro Tryd.func104 rfl Tryd.ntmps104 rfl ?_
  refine W_seq ?_
  refine W_region ?_
  refine L_assign rfl rfl ?_
  refine L_nil ?_
  refine W_seq ?_
  refine W_seq ?_
  refine W_region ?_
  refine L_move rfl rfl ?_
  refine L_binV rfl rfl rfl bv_leq ?_
  refine L_nil ?_
  refine W_weaken (l' := [(0, _), (5, _)]) (Sub.cons rfl (Sub.cons rfl (Sub.nil _))) (MSub.refl _) ?_
  refine W_cond rfl (fun hc1 => ?_) (fun hc1 => ?_)
  · skip
    refine W_seq ?_
    refine W_region ?_
    refine L_assign rfl rfl ?_
    refine L_nil ?_
    refine W_ret ?_
    -- return 1 (R2)
    refine res1 rfl (ResOK.tmp rfl) ⟨?_, rfl⟩ (MSub.nil _)
    exfalso; simp at hc1; omega
  · skip
    refine W_skip ?_
    refine W_seq ?_
    refine W_region ?_
    refine L_assign rfl rfl ?_
    refine L_nil ?_
    refine W_seq ?_
    refine W_block ?_
    refine W_loopC (σ := Nat × ByteArray) (k0, ByteArray.mk #[]) (fun (p : Nat × ByteArray) => [(0, .int .i64 (p.1 : Int)), (3, .string p.2)]) (fun (p : Nat × ByteArray) => []) (fun (p : Nat × ByteArray) => mtxN p.1 p.2 = mtxN k0 (ByteArray.mk #[]) ∧ p.2.size + p.1 ≤ k0) (fun (p : Nat × ByteArray) => p.1) [] [] ?_ (Sub.cons rfl (Sub.cons rfl (Sub.nil _))) (MSub.nil _) ?_
    · skip
      refine ⟨rfl, ?_⟩
      show (ByteArray.mk #[]).size + k0 ≤ k0
      have : (ByteArray.mk #[]).size = 0 := rfl
      omega
    · skip
      rintro ⟨k, s⟩ ⟨hs, hz⟩
      refine W_weaken (l' := [(0, _), (3, _)]) (Sub.cons rfl (Sub.cons rfl (Sub.nil _))) (M' := []) (MSub.nil _) ?_
      refine W_seq ?_
      refine W_seq ?_
      refine W_region ?_
      refine L_move rfl rfl ?_
      refine L_binV rfl rfl rfl bv_gtr ?_
      refine L_nil ?_
      refine W_weaken (l' := [(0, _), (3, _), (7, _)]) (Sub.cons rfl (Sub.cons rfl (Sub.cons rfl (Sub.nil _)))) (MSub.refl _) ?_
      refine W_cond rfl (fun hc4 => ?_) (fun hc4 => ?_)
      · skip
        have hkp : 0 < k := by simpa using hc4
        refine W_skip ?_
        refine W_block ?_
        refine W_seq ?_
        refine W_region ?_
        refine L_move rfl rfl ?_
        refine L_binV rfl rfl rfl (bv_remN k 10 (by omega)) ?_
        refine L_binV rfl rfl rfl (bv_addR (by unfold inR; omega)) ?_
        refine L_convInt rfl rfl und5 (by rw [und3]; rfl) ?_
        refine L_buildSlice1 rfl rfl el59 rfl (by decide) (by decide) rfl (fun bb => ?_)
        refine L_bytesToStr (ns := [IntKind.u8.wrap (48 + ((k % 10 : Nat) : Int))]) rfl rfl und59 und5 und9 (RdC.blk (by repeat (first | exact List.Mem.head _ | apply List.Mem.tail))) rfl rfl ?_
        refine L_move rfl rfl ?_
        refine L_binV rfl rfl rfl (bv_sadd (by rw [strOf_size1]; omega)) ?_
        refine L_assign rfl rfl ?_
        refine L_nil ?_
        refine W_region ?_
        refine L_move rfl rfl ?_
        refine L_binV rfl rfl rfl (bv_quoN k 10 (by omega) (by omega)) ?_
        refine L_assign rfl rfl ?_
        refine L_nil ?_
        refine ⟨(k / 10, dg k ++ s), (Sub.cons rfl (Sub.cons rfl (Sub.nil _))), (MSub.nil _), ?_, ?_⟩
        · skip
          refine ⟨?_, ?_⟩
          · rw [← hs]; exact (mtxN_step s hkp).symm
          · dsimp only at hz ⊢
            rw [ByteArray.size_append, dg_size]; omega
        · skip
          dsimp only; omega
      · skip
        refine W_exit ?_
        refine W_seq ?_
        have hd1 : ({ data := #[109] } : ByteArray).size = 1 := rfl
        dsimp only at hz
        refine W_region ?_
        refine L_move rfl rfl ?_
        refine L_binV rfl rfl rfl (bv_sadd (by (try dsimp only); omega)) ?_
        refine L_assign rfl rfl ?_
        refine L_nil ?_
        refine W_ret ?_
        -- return 2 (R7)
        refine res1 rfl (ResOK.tmp rfl) ⟨?_, rfl⟩ (MSub.nil _)
        have hk2 : k = 0 := by simp at hc4; omega
        subst hk2
        dsimp only at hs
        rw [mtxN_zero] at hs
        exact congrArg Value.string (by rw [hs]; rfl)

end Go.Proofs.SL
