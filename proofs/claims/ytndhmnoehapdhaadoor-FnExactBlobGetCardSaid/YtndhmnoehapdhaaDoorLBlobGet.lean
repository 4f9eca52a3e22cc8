/- The law FnExactBlobGet. -/
import Derived.Test.YtndhmnoehapdhaaDoorPJ
namespace Go.Proofs.SL
open Go

theorem sBlobGet_spec (w : World) (a0 : T_Blobs) (a1 : ByteArray) (h0 : GT.rd w [] a0) (ho0 : Ok.ok (GT.dat a0)) (ho1 : Ok.ok (GT.dat a1))  (hg0 : GT.rd w [] gV0) : Spec Tryd.prog 14 [.agg (GT.cells a0).toArray, .string a1].toArray w [] (IsV (.tuple #[.string ((blobGetD (GT.dat a0) a1).1), .int .i64 ((blobGetD (GT.dat a0) a1).2)])) := (s_BlobGet_walk w a0 a1 h0 _ (s_BlobGet_eq ho0.2.1)).to fun v M ⟨x0, x1, hv, hd, hM⟩ => by
  obtain rfl : x0 = (blobGetD (GT.dat a0) a1).1 := congrArg (fun z => z.1) hd
  obtain rfl : x1 = (blobGetD (GT.dat a0) a1).2 := congrArg (fun z => z.2) hd
  exact ⟨hv, hM⟩
theorem iBlobGet_spec (w : World) (a0 : T_Blobs) (a1 : ByteArray) (h0 : GT.rd w [] a0) (ho0 : Ok.ok (GT.dat a0)) (ho1 : Ok.ok (GT.dat a1))  (hg0 : GT.rd w [] gV0) : Spec Tryd.prog 16 [.agg (GT.cells a0).toArray, .string a1].toArray w [] (IsV (.tuple #[.string ((blobGetD (GT.dat a0) a1).1), .int .i64 ((blobGetD (GT.dat a0) a1).2)])) := (i_BlobGet_walk w a0 a1 h0 hg0 _ (i_BlobGet_eq ho0.2.1)).to fun v M ⟨x0, x1, hv, hd, hM⟩ => by
  obtain rfl : x0 = (blobGetD (GT.dat a0) a1).1 := congrArg (fun z => z.1) hd
  obtain rfl : x1 = (blobGetD (GT.dat a0) a1).2 := congrArg (fun z => z.2) hd
  exact ⟨hv, hM⟩
theorem lawFnExactBlobGet (w : World) (t1 : T_Blobs) (t2 : ByteArray) (h1 : GT.rd w [] t1) (h2 : GT.rd w [] t2) (ho1 : Ok.ok (GT.dat t1)) (ho2 : Ok.ok (GT.dat t2)) (hg0 : GT.rd w [] gV0) : Spec Tryd.prog 3 [.agg (GT.cells t1).toArray, .string t2].toArray w [] (IsV (.bool true)) := by
  refine Spec.intro Tryd.func3 rfl Tryd.ntmps3 rfl ?_
  refine W_seq ?_
  refine W_region ?_
  refine L_box rfl rfl (fun bk2 => ?_)
  refine L_assign rfl rfl ?_
  refine L_nil ?_
  refine W_seq ?_
  refine W_seq ?_
  refine W_region ?_
  refine L_move rfl rfl ?_
  refine L_lenT rfl rfl str9 ?_
  refine L_binV rfl rfl rfl bv_gtr ?_
  refine L_nil ?_
  refine W_weaken (l' := [(1, _), (2, _), (13, _)]) (Sub.cons rfl (Sub.cons rfl (Sub.cons rfl (Sub.nil _)))) (MSub.refl _) ?_
  refine W_cond rfl (fun hc1 => ?_) (fun hc1 => ?_)
  · skip
    refine W_seq ?_
    refine W_region ?_
    refine L_assign rfl rfl ?_
    refine L_nil ?_
    refine W_ret ?_
    -- return 1 (R2)
    refine res1 rfl (ResOK.tmp rfl) ⟨?_, rfl⟩ (MSub.nil _)
    first
      | rfl
      | (rename_i hz; simp [*] at hz; done)
      | (simp_all; done)
  · skip
    refine W_skip ?_
    refine W_seq ?_
    refine W_region ?_
    refine L_assign rfl rfl ?_
    refine L_nil ?_
    refine W_seq ?_
    refine W_region ?_
    refine L_loadW rfl rfl (by first | exact RdC.blk (by repeat (first | exact List.Mem.head _ | apply List.Mem.tail))) (by exact agg24) ?_
    refine L_move rfl rfl ?_
    refine L_callX rfl fn13 rfl (by exact fun w hw => szBlobs_spec w t1 (1048576) (by omega) (by omega) (rd_carry h1 hw) ho1) ?_
    refine L_assign rfl rfl ?_
    refine L_nil ?_
    refine W_seq ?_
    refine W_seq ?_
    refine W_region ?_
    refine L_move rfl rfl ?_
    refine L_binV rfl rfl rfl bv_lss ?_
    refine L_nil ?_
    refine W_weaken (l' := [(1, _), (2, _), (18, _)]) (Sub.cons rfl (Sub.cons rfl (Sub.cons rfl (Sub.nil _)))) (MSub.refl _) ?_
    refine W_cond rfl (fun hc5 => ?_) (fun hc5 => ?_)
    · skip
      skip
      refine W_seq ?_
      refine W_region ?_
      refine L_assign rfl rfl ?_
      refine L_nil ?_
      refine W_ret ?_
      -- return 2 (R6)
      refine res1 rfl (ResOK.tmp rfl) ⟨?_, rfl⟩ (MSub.nil _)
      first
        | rfl
        | (rename_i hz; simp [*] at hz; done)
        | (simp_all; done)
    · skip
      have hb1 : (Bk.bulk t1 : Int) ≤ 1048576 := by
        rcases Int.decLt (1048576) (Bk.bulk t1 : Int) with hn | hn
        · omega
        · rw [if_neg (by omega)] at hc5; simp at hc5
      rw [if_pos hb1]
      refine W_skip ?_
      refine W_seq ?_
      refine W_region ?_
      refine L_loadW rfl rfl (by first | exact RdC.blk (by repeat (first | exact List.Mem.head _ | apply List.Mem.tail))) (by exact agg24) ?_
      refine L_callR rfl fn15 rfl (by exact fun w hw => toBlobs_spec w _ (rd_carry h1 hw) (by omega)) ?_
      rintro v M1 ⟨n1, hv, hd1, rfl⟩
      subst hv
      simp only [List.cons_append, List.nil_append]
      refine L_move rfl rfl ?_
      refine L_callX rfl fn14 rfl (by exact fun w hw => sBlobGet_spec w n1 t2 (rd_of_tree (by repeat (first | exact List.Mem.head _ | apply List.Mem.tail)) hw.sees) (by rw [hd1]; exact ho1) ho2 (rd_carry hg0 hw)) ?_
      refine L_move rfl rfl ?_
      refine L_extract rfl rfl rfl ?_
      refine L_extract rfl rfl rfl ?_
      refine L_assign rfl rfl ?_
      refine L_assign rfl rfl ?_
      refine L_nil ?_
      refine W_seq ?_
      refine W_region ?_
      refine L_loadW rfl rfl (by first | exact RdC.blk (by repeat (first | exact List.Mem.head _ | apply List.Mem.tail))) (by exact agg24) ?_
      refine L_callR rfl fn15 rfl (by exact fun w hw => toBlobs_spec w _ (rd_carry h1 hw) (by omega)) ?_
      rintro v M1 ⟨n2, hv, hd2, rfl⟩
      subst hv
      simp only [List.cons_append, List.nil_append]
      refine L_alloc rfl zero30 (fun bk8 => ?_)
      refine L_storeW rfl rfl (by repeat (first | exact Pick.here _ | apply Pick.there)) (by exact agg30) (by rfl) (by first | (simp [Value.oneCell', TL.hdr]; done) | (simp [Value.oneCell', TL.hdr, Value.cells]; done) | exact fun v hv => GT.one _ v hv) ?_
      refine L_nil ?_
      refine W_seq ?_
      refine W_region ?_
      refine L_loadW rfl rfl (by first | exact RdC.blk (by repeat (first | exact List.Mem.head _ | apply List.Mem.tail))) (by exact agg30) ?_
      refine L_move rfl rfl ?_
      refine L_callX rfl fn16 rfl (by exact fun w hw => iBlobGet_spec w n2 t2 (rd_of_tree (by repeat (first | exact List.Mem.head _ | apply List.Mem.tail)) hw.sees) (by rw [hd2]; exact ho1) ho2 (rd_carry hg0 hw)) ?_
      refine L_move rfl rfl ?_
      refine L_extract rfl rfl rfl ?_
      refine L_extract rfl rfl rfl ?_
      refine L_assign rfl rfl ?_
      refine L_assign rfl rfl ?_
      refine L_nil ?_
      refine W_seq ?_
      refine W_seq ?_
      refine W_D0 [41] mix (by kernel_rfl) rfl ?_
      refine D_move GC.none (OpV.t rfl) ?_
      refine D_move GC.none (OpV.t rfl) ?_
      refine D_bin GC.none (OpV.t rfl) (OpV.t rfl) (fun hg => bv_sneq) ?_
      refine D_move GC.none (OpV.t rfl) ?_
      refine D_move (GC.some rfl rfl) (OpV.t rfl) ?_
      refine D_move (GC.some rfl rfl) (OpV.t rfl) ?_
      refine D_bin (GC.some rfl rfl) (OpV.s rfl) (OpV.s rfl) (fun hg => bv_neq) ?_
      refine D_or (cy := _) GC.none (OpV.t rfl) (OpV.s rfl) (fun h hb => ⟨h, hb⟩) ?_
      refine DV_nil ?_
      refine Give_is rfl rfl ?_
      refine Give_drop rfl ?_
      refine Give_drop rfl ?_
      refine Give_drop rfl ?_
      refine Give_drop rfl ?_
      refine Give_drop rfl ?_
      refine Give_drop rfl ?_
      refine Give_drop rfl ?_
      refine Give_nil ?_
      refine W_weaken (l' := [(2, _), (8, _), (41, _)]) (Sub.cons rfl (Sub.cons rfl (Sub.cons rfl (Sub.nil _)))) (MSub.refl _) ?_
      refine W_cond rfl (fun hc10 => ?_) (fun hc10 => ?_)
      · skip
        refine W_seq ?_
        refine W_region ?_
        refine L_assign rfl rfl ?_
        refine L_nil ?_
        refine W_ret ?_
        -- return 3 (R11)
        refine res1 rfl (ResOK.tmp rfl) ⟨?_, rfl⟩ (MSub.nil _)
        first
          | rfl
          | (rename_i hz; simp [*] at hz; done)
          | (simp_all; done)
      · skip
        refine W_skip ?_
        refine W_seq ?_
        refine W_seq ?_
        refine W_D0 [46] mix (by kernel_rfl) rfl ?_
        refine D_loadW GC.none (OpV.t rfl) (fun hg => (by first | exact RdC.blk (by repeat (first | exact List.Mem.head _ | apply List.Mem.tail)))) (by exact agg30) ?_
        refine D_loadW GC.none (OpV.t rfl) (fun hg => (by first | exact RdC.blk (by repeat (first | exact List.Mem.head _ | apply List.Mem.tail)))) (by exact agg24) ?_
        refine D_call1R (fun v M => ∃ m : T_Blobs, v = .agg (GT.cells m).toArray ∧ GT.dat m = GT.dat t1 ∧ M = [treeH m]) fn15 (OpVs.cons (OpV.t rfl) (OpVs.nil)) (by exact fun w F hF hM => (fun w hw => toBlobs_spec w _ (rd_carry h1 hw) (by omega)) w hF) ?_
        refine D_callR [_, _] (FC True (.bool true)) fn17 ⟨⟨_, rfl, fun _ _ h => h⟩, ⟨_, rfl, fun _ _ h => h⟩, trivial⟩ (by
          rintro w F vs hw hM ⟨v1, u1, M1, rfl, ⟨rfl, hx1, _⟩, _, v2, u2, M2, rfl, ⟨m2, rfl, hd2x, rfl⟩, hin, rfl⟩
          obtain rfl := hx1 trivial
          have h := eqBlobs_spec w n2 m2 (rd_of_tree (hM _ (by repeat (first | exact List.Mem.head _ | apply List.Mem.tail))) hw.sees) (rd_of_tree (hin _ (List.mem_singleton.2 rfl)) hw.sees)
          rw [eqB_true.2 (hd2.trans hd2x.symm)] at h
          exact h.toFC) ?_
        refine D_not GC.none (OpV.t rfl) ?_
        refine DV_nil ?_
        refine Give_is rfl rfl ?_
        refine Give_drop rfl ?_
        refine Give_drop rfl ?_
        refine Give_drop rfl ?_
        refine Give_drop rfl ?_
        refine Give_nil ?_
        refine W_weaken (l' := [(46, _)]) (Sub.cons rfl (Sub.nil _)) (MSub.refl _) ?_
        refine W_condF rfl ?_
        refine W_skip ?_
        refine W_seq ?_
        refine W_region ?_
        refine L_assign rfl rfl ?_
        refine L_nil ?_
        refine W_ret ?_
        -- return 4 (R14)
        refine res1 rfl (ResOK.tmp rfl) ⟨?_, rfl⟩ (MSub.nil _)
        first
          | rfl
          | (rename_i hz; simp [*] at hz; done)
          | (simp_all; done)

end Go.Proofs.SL
