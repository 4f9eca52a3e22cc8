/- The law FnExactFetch. -/
import Derived.Test.YtndhmnoehapdhaaDoorPJ
namespace Go.Proofs.SL
open Go
def fetchD (l : List D_Blobs) (c : ByteArray) : ByteArray × Int := fetchGo c l 2
theorem fn24 : IsFn Tryd.prog 24 := ⟨_, Tryd.func24, by kernel_rfl, rfl⟩
theorem fn26 : IsFn Tryd.prog 26 := ⟨_, Tryd.func26, by kernel_rfl, rfl⟩
theorem fn25 : IsFn Tryd.prog 25 := ⟨_, Tryd.func25, by kernel_rfl, rfl⟩
theorem fn27 : IsFn Tryd.prog 27 := ⟨_, Tryd.func27, by kernel_rfl, rfl⟩
theorem fn28 : IsFn Tryd.prog 28 := ⟨_, Tryd.func28, by kernel_rfl, rfl⟩
theorem sFetch_spec (w : World) (a0 : TL T_Blobs) (a1 : ByteArray) (h0 : GT.rd w [] a0) (ho0 : Ok.ok (GT.dat a0)) (ho1 : Ok.ok (GT.dat a1))  (hg0 : GT.rd w [] gV0) : Spec Tryd.prog 25 [a0.hdr, .string a1].toArray w [] (IsV (.tuple #[.string ((fetchD (GT.dat a0) a1).1), .int .i64 ((fetchD (GT.dat a0) a1).2)])) := (s_Fetch_walk w a0 a1 h0 _ (s_Fetch_eq ho0.1 fun d hd => (ho0.2 d hd).2.1)).to fun v M ⟨x0, x1, hv, hd, hM⟩ => by
  obtain rfl : x0 = (fetchD (GT.dat a0) a1).1 := congrArg (fun z => z.1) hd
  obtain rfl : x1 = (fetchD (GT.dat a0) a1).2 := congrArg (fun z => z.2) hd
  exact ⟨hv, hM⟩
theorem iFetch_spec (w : World) (a0 : TL T_Blobs) (a1 : ByteArray) (h0 : GT.rd w [] a0) (ho0 : Ok.ok (GT.dat a0)) (ho1 : Ok.ok (GT.dat a1))  (hg0 : GT.rd w [] gV0) : Spec Tryd.prog 27 [a0.hdr, .string a1].toArray w [] (IsV (.tuple #[.string ((fetchD (GT.dat a0) a1).1), .int .i64 ((fetchD (GT.dat a0) a1).2)])) := (i_Fetch_walk w a0 a1 h0 hg0 _ (i_Fetch_eq ho0.1 fun d hd => (ho0.2 d hd).2.1)).to fun v M ⟨x0, x1, hv, hd, hM⟩ => by
  obtain rfl : x0 = (fetchD (GT.dat a0) a1).1 := congrArg (fun z => z.1) hd
  obtain rfl : x1 = (fetchD (GT.dat a0) a1).2 := congrArg (fun z => z.2) hd
  exact ⟨hv, hM⟩
theorem lawFnExactFetch (w : World) (t1 : TL T_Blobs) (t2 : ByteArray) (h1 : GT.rd w [] t1) (h2 : GT.rd w [] t2) (ho1 : Ok.ok (GT.dat t1)) (ho2 : Ok.ok (GT.dat t2)) (hg0 : GT.rd w [] gV0) : Spec Tryd.prog 6 [t1.hdr, .string t2].toArray w [] (IsV (.bool true)) := by
  refine Spec.intro Tryd.func6 rfl Tryd.ntmps6 rfl ?_
  refine W_seq ?_
  refine W_region ?_
  refine L_assign rfl rfl ?_
  refine L_nil ?_
  refine W_seq ?_
  refine W_seq ?_
  refine W_region ?_
  refine L_move rfl rfl ?_
  refine L_lenT rfl rfl str9 ?_
  refine L_binV rfl rfl rfl bv_gtr ?_
  refine L_nil ?_
  refine W_weaken (l' := [(0, _), (1, _), (13, _)]) (Sub.cons rfl (Sub.cons rfl (Sub.cons rfl (Sub.nil _)))) (MSub.refl _) ?_
  refine W_cond rfl (fun hc1 => ?_) (fun hc1 => ?_)
  · skip
    refine W_seq ?_
    refine W_region ?_
    refine L_assign rfl rfl ?_
    refine L_nil ?_
    refine W_ret ?_
    -- return 1 (R2)
    refine res1 rfl (ResOK.tmp rfl) ⟨?_, rfl⟩ (MSub.nil _)
    first
      | rfl
      | (rename_i hz; simp [*] at hz; done)
      | (simp_all; done)
  · skip
    refine W_skip ?_
    refine W_seq ?_
    refine W_region ?_
    refine L_assign rfl rfl ?_
    refine L_nil ?_
    refine W_seq ?_
    refine W_region ?_
    refine L_move rfl rfl ?_
    refine L_move rfl rfl ?_
    refine L_callX rfl fn24 rfl (by exact fun w hw => szBlobsS_spec w t1 (1048576) (by omega) (by omega) (rd_carry h1 hw) ho1) ?_
    refine L_assign rfl rfl ?_
    refine L_nil ?_
    refine W_seq ?_
    refine W_seq ?_
    refine W_region ?_
    refine L_move rfl rfl ?_
    refine L_binV rfl rfl rfl bv_lss ?_
    refine L_nil ?_
    refine W_weaken (l' := [(0, _), (1, _), (18, _)]) (Sub.cons rfl (Sub.cons rfl (Sub.cons rfl (Sub.nil _)))) (MSub.refl _) ?_
    refine W_cond rfl (fun hc5 => ?_) (fun hc5 => ?_)
    · skip
      skip
      refine W_seq ?_
      refine W_region ?_
      refine L_assign rfl rfl ?_
      refine L_nil ?_
      refine W_ret ?_
      -- return 2 (R6)
      refine res1 rfl (ResOK.tmp rfl) ⟨?_, rfl⟩ (MSub.nil _)
      first
        | rfl
        | (rename_i hz; simp [*] at hz; done)
        | (simp_all; done)
    · skip
      have hb1 : (Bk.bulk t1 : Int) ≤ 1048576 := by
        rcases Int.decLt (1048576) (Bk.bulk t1 : Int) with hn | hn
        · omega
        · rw [if_neg (by omega)] at hc5; simp at hc5
      rw [if_pos hb1]
      refine W_skip ?_
      refine W_seq ?_
      refine W_region ?_
      refine L_move rfl rfl ?_
      refine L_callR rfl fn26 rfl (by exact fun w hw => toBlobsS_spec w _ (rd_carry h1 hw) (by omega)) ?_
      rintro v M1 ⟨n1, hv, hd1, rfl⟩
      subst hv
      simp only [List.cons_append, List.nil_append]
      refine L_move rfl rfl ?_
      refine L_callX rfl fn25 rfl (by exact fun w hw => sFetch_spec w n1 t2 (rd_of_tree (by repeat (first | exact List.Mem.head _ | apply List.Mem.tail)) hw.sees) (by rw [hd1]; exact ho1) ho2 (rd_carry hg0 hw)) ?_
      refine L_move rfl rfl ?_
      refine L_extract rfl rfl rfl ?_
      refine L_extract rfl rfl rfl ?_
      refine L_assign rfl rfl ?_
      refine L_assign rfl rfl ?_
      refine L_nil ?_
      refine W_seq ?_
      refine W_region ?_
      refine L_move rfl rfl ?_
      refine L_callR rfl fn26 rfl (by exact fun w hw => toBlobsS_spec w _ (rd_carry h1 hw) (by omega)) ?_
      rintro v M1 ⟨n2, hv, hd2, rfl⟩
      subst hv
      simp only [List.cons_append, List.nil_append]
      refine L_assign rfl rfl ?_
      refine L_nil ?_
      refine W_seq ?_
      refine W_region ?_
      refine L_move rfl rfl ?_
      refine L_move rfl rfl ?_
      refine L_callX rfl fn27 rfl (by exact fun w hw => iFetch_spec w n2 t2 (rd_of_tree (by repeat (first | exact List.Mem.head _ | apply List.Mem.tail)) hw.sees) (by rw [hd2]; exact ho1) ho2 (rd_carry hg0 hw)) ?_
      refine L_move rfl rfl ?_
      refine L_extract rfl rfl rfl ?_
      refine L_extract rfl rfl rfl ?_
      refine L_assign rfl rfl ?_
      refine L_assign rfl rfl ?_
      refine L_nil ?_
      refine W_seq ?_
      refine W_seq ?_
      refine W_D0 [41] mix (by kernel_rfl) rfl ?_
      refine D_move GC.none (OpV.t rfl) ?_
      refine D_move GC.none (OpV.t rfl) ?_
      refine D_bin GC.none (OpV.t rfl) (OpV.t rfl) (fun hg => bv_sneq) ?_
      refine D_move GC.none (OpV.t rfl) ?_
      refine D_move (GC.some rfl rfl) (OpV.t rfl) ?_
      refine D_move (GC.some rfl rfl) (OpV.t rfl) ?_
      refine D_bin (GC.some rfl rfl) (OpV.s rfl) (OpV.s rfl) (fun hg => bv_neq) ?_
      refine D_or (cy := _) GC.none (OpV.t rfl) (OpV.s rfl) (fun h hb => ⟨h, hb⟩) ?_
      refine DV_nil ?_
      refine Give_is rfl rfl ?_
      refine Give_drop rfl ?_
      refine Give_drop rfl ?_
      refine Give_drop rfl ?_
      refine Give_drop rfl ?_
      refine Give_drop rfl ?_
      refine Give_drop rfl ?_
      refine Give_drop rfl ?_
      refine Give_nil ?_
      refine W_weaken (l' := [(0, _), (8, _), (41, _)]) (Sub.cons rfl (Sub.cons rfl (Sub.cons rfl (Sub.nil _)))) (MSub.refl _) ?_
      refine W_cond rfl (fun hc10 => ?_) (fun hc10 => ?_)
      · skip
        refine W_seq ?_
        refine W_region ?_
        refine L_assign rfl rfl ?_
        refine L_nil ?_
        refine W_ret ?_
        -- return 3 (R11)
        refine res1 rfl (ResOK.tmp rfl) ⟨?_, rfl⟩ (MSub.nil _)
        first
          | rfl
          | (rename_i hz; simp [*] at hz; done)
          | (simp_all; done)
      · skip
        refine W_skip ?_
        refine W_seq ?_
        refine W_seq ?_
        refine W_region ?_
        refine L_move rfl rfl ?_
        refine L_move rfl rfl ?_
        refine L_callR rfl fn26 rfl (by exact fun w hw => toBlobsS_spec w _ (rd_carry h1 hw) (by omega)) ?_
        rintro v M1 ⟨n3, hv, hd3, rfl⟩
        subst hv
        simp only [List.cons_append, List.nil_append]
        refine L_callX rfl fn28 rfl (by exact fun w hw => (by have h := eqBlobsS_spec w n2 n3 (rd_of_tree (by repeat (first | exact List.Mem.head _ | apply List.Mem.tail)) hw.sees) (rd_of_tree (by repeat (first | exact List.Mem.head _ | apply List.Mem.tail)) hw.sees); rw [eqB_true.2 (hd2.trans hd3.symm)] at h; exact h)) ?_
        refine L_not rfl rfl ?_
        refine L_nil ?_
        refine W_weaken (l' := [(46, _)]) (Sub.cons rfl (Sub.nil _)) (MSub.refl _) ?_
        refine W_condF rfl ?_
        refine W_skip ?_
        refine W_seq ?_
        refine W_region ?_
        refine L_assign rfl rfl ?_
        refine L_nil ?_
        refine W_ret ?_
        -- return 4 (R14)
        refine res1 rfl (ResOK.tmp rfl) ⟨?_, rfl⟩ (MSub.nil _)
        first
          | rfl
          | (rename_i hz; simp [*] at hz; done)
          | (simp_all; done)

end Go.Proofs.SL
