/- The law FnExactWhole. -/
import Derived.Test.YtndhmnoehapdhaaDoorPX
namespace Go.Proofs.SL
open Go

theorem agg48 : aggOf Tryd.prog 48 = some 1 := by kernel_rfl
theorem fn31 : IsFn Tryd.prog 31 := ⟨_, Tryd.func31, by kernel_rfl, rfl⟩
theorem fn24 : IsFn Tryd.prog 24 := ⟨_, Tryd.func24, by kernel_rfl, rfl⟩
theorem fn33 : IsFn Tryd.prog 33 := ⟨_, Tryd.func33, by kernel_rfl, rfl⟩
theorem fn26 : IsFn Tryd.prog 26 := ⟨_, Tryd.func26, by kernel_rfl, rfl⟩
theorem fn36 : IsFn Tryd.prog 36 := ⟨_, Tryd.func36, by kernel_rfl, rfl⟩
theorem fn37 : IsFn Tryd.prog 37 := ⟨_, Tryd.func37, by kernel_rfl, rfl⟩
theorem fn35 : IsFn Tryd.prog 35 := ⟨_, Tryd.func35, by kernel_rfl, rfl⟩
theorem fn28 : IsFn Tryd.prog 28 := ⟨_, Tryd.func28, by kernel_rfl, rfl⟩
theorem sWhole_spec (w : World) (a0 : T_Catalog) (a1 : TL T_Blobs) (h0 : GT.rd w [] a0) (h1 : GT.rd w [] a1) (ho0 : Ok.ok (GT.dat a0)) (ho1 : Ok.ok (GT.dat a1))  (hg0 : GT.rd w [] gV0) : Spec Tryd.prog 36 [.agg (GT.cells a0).toArray, a1.hdr].toArray w [] (IsV (.bool (wholeB (GT.dat a0) (GT.dat a1)))) := s_Whole_walk w a0 a1 h0 h1 _ (s_Whole_eq ho0 ho1.1 fun d hd => (ho1.2 d hd).2.1)
theorem iWhole_spec (w : World) (a0 : T_Catalog) (a1 : TL T_Blobs) (h0 : GT.rd w [] a0) (h1 : GT.rd w [] a1) (ho0 : Ok.ok (GT.dat a0)) (ho1 : Ok.ok (GT.dat a1))  (hg0 : GT.rd w [] gV0) : Spec Tryd.prog 37 [.agg (GT.cells a0).toArray, a1.hdr].toArray w [] (IsV (.bool (wholeB (GT.dat a0) (GT.dat a1)))) := i_Whole_walk w a0 a1 h0 h1 hg0 _ (i_Whole_eq ho0 ho1.1 fun d hd => (ho1.2 d hd).2.1)
theorem lawFnExactWhole (w : World) (t1 : T_Catalog) (t2 : TL T_Blobs) (h1 : GT.rd w [] t1) (h2 : GT.rd w [] t2) (ho1 : Ok.ok (GT.dat t1)) (ho2 : Ok.ok (GT.dat t2)) (hg0 : GT.rd w [] gV0) : Spec Tryd.prog 9 [.agg (GT.cells t1).toArray, t2.hdr].toArray w [] (IsV (.bool true)) := by
  refine Spec.intro Tryd.func9 rfl Tryd.ntmps9 rfl ?_
  refine W_seq ?_
  refine W_region ?_
  refine L_box rfl rfl (fun bk2 => ?_)
  refine L_assign rfl rfl ?_
  refine L_nil ?_
  refine W_seq ?_
  refine W_region ?_
  refine L_assign rfl rfl ?_
  refine L_nil ?_
  refine W_seq ?_
  refine W_region ?_
  refine L_loadW rfl rfl (by first | exact RdC.blk (by repeat (first | exact List.Mem.head _ | apply List.Mem.tail))) (by exact agg48) ?_
  refine L_move rfl rfl ?_
  refine L_callX rfl fn31 rfl (by exact fun w hw => szCatalog_spec w t1 (1048576) (by omega) (by omega) (rd_carry h1 hw) ho1) ?_
  refine L_assign rfl rfl ?_
  refine L_nil ?_
  refine W_seq ?_
  refine W_seq ?_
  refine W_region ?_
  refine L_move rfl rfl ?_
  refine L_binV rfl rfl rfl bv_lss ?_
  refine L_nil ?_
  refine W_weaken (l' := [(1, _), (2, _), (5, _), (14, _)]) (Sub.cons rfl (Sub.cons rfl (Sub.cons rfl (Sub.cons rfl (Sub.nil _))))) (MSub.refl _) ?_
  refine W_cond rfl (fun hc3 => ?_) (fun hc3 => ?_)
  · skip
    skip
    refine W_seq ?_
    refine W_region ?_
    refine L_assign rfl rfl ?_
    refine L_nil ?_
    refine W_ret ?_
    -- return 1 (R4)
    refine res1 rfl (ResOK.tmp rfl) ⟨?_, rfl⟩ (MSub.nil _)
    first
      | rfl
      | (rename_i hz; simp [*] at hz; done)
      | (simp_all; done)
  · skip
    have hb1 : (Bk.bulk t1 : Int) ≤ 1048576 := by
      rcases Int.decLt (1048576) (Bk.bulk t1 : Int) with hn | hn
      · omega
      · rw [if_neg (by omega)] at hc3; simp at hc3
    rw [if_pos hb1]
    refine W_skip ?_
    refine W_seq ?_
    refine W_region ?_
    refine L_move rfl rfl ?_
    refine L_move rfl rfl ?_
    refine L_callX rfl fn24 rfl (by exact fun w hw => szBlobsS_spec w t2 (1048576 - (Bk.bulk t1 : Int)) (by omega) (by omega) (rd_carry h2 hw) ho2) ?_
    refine L_assign rfl rfl ?_
    refine L_nil ?_
    refine W_seq ?_
    refine W_seq ?_
    refine W_region ?_
    refine L_move rfl rfl ?_
    refine L_binV rfl rfl rfl bv_lss ?_
    refine L_nil ?_
    refine W_weaken (l' := [(1, _), (2, _), (19, _)]) (Sub.cons rfl (Sub.cons rfl (Sub.cons rfl (Sub.nil _)))) (MSub.refl _) ?_
    refine W_cond rfl (fun hc6 => ?_) (fun hc6 => ?_)
    · skip
      skip
      refine W_seq ?_
      refine W_region ?_
      refine L_assign rfl rfl ?_
      refine L_nil ?_
      refine W_ret ?_
      -- return 2 (R7)
      refine res1 rfl (ResOK.tmp rfl) ⟨?_, rfl⟩ (MSub.nil _)
      first
        | rfl
        | (rename_i hz; simp [*] at hz; done)
        | (simp_all; done)
    · skip
      have hb2 : (Bk.bulk t2 : Int) ≤ 1048576 - (Bk.bulk t1 : Int) := by
        rcases Int.decLt (1048576 - (Bk.bulk t1 : Int)) (Bk.bulk t2 : Int) with hn | hn
        · omega
        · rw [if_neg (by omega)] at hc6; simp at hc6
      rw [if_pos hb2]
      refine W_skip ?_
      refine W_seq ?_
      refine W_region ?_
      refine L_loadW rfl rfl (by first | exact RdC.blk (by repeat (first | exact List.Mem.head _ | apply List.Mem.tail))) (by exact agg48) ?_
      refine L_callR rfl fn33 rfl (by exact fun w hw => toCatalog_spec w _ (rd_carry h1 hw) (by omega)) ?_
      rintro v M1 ⟨n1, hv, hd1, rfl⟩
      subst hv
      simp only [List.cons_append, List.nil_append]
      refine L_move rfl rfl ?_
      refine L_callR rfl fn26 rfl (by exact fun w hw => toBlobsS_spec w _ (rd_carry h2 hw) (by omega)) ?_
      rintro v M1 ⟨n2, hv, hd2, rfl⟩
      subst hv
      simp only [List.cons_append, List.nil_append]
      refine L_callX rfl fn36 rfl (by exact fun w hw => sWhole_spec w n1 n2 (rd_of_tree (by repeat (first | exact List.Mem.head _ | apply List.Mem.tail)) hw.sees) (rd_of_tree (by repeat (first | exact List.Mem.head _ | apply List.Mem.tail)) hw.sees) (by rw [hd1]; exact ho1) (by rw [hd2]; exact ho2) (rd_carry hg0 hw)) ?_
      refine L_assign rfl rfl ?_
      refine L_nil ?_
      refine W_seq ?_
      refine W_region ?_
      refine L_loadW rfl rfl (by first | exact RdC.blk (by repeat (first | exact List.Mem.head _ | apply List.Mem.tail))) (by exact agg48) ?_
      refine L_callR rfl fn33 rfl (by exact fun w hw => toCatalog_spec w _ (rd_carry h1 hw) (by omega)) ?_
      rintro v M1 ⟨n3, hv, hd3, rfl⟩
      subst hv
      simp only [List.cons_append, List.nil_append]
      refine L_alloc rfl zero53 (fun bk7 => ?_)
      refine L_storeW rfl rfl (by repeat (first | exact Pick.here _ | apply Pick.there)) (by exact agg53) (by rfl) (by first | (simp [Value.oneCell', TL.hdr]; done) | (simp [Value.oneCell', TL.hdr, Value.cells]; done) | exact fun v hv => GT.one _ v hv) ?_
      refine L_nil ?_
      refine W_seq ?_
      refine W_region ?_
      refine L_move rfl rfl ?_
      refine L_callR rfl fn26 rfl (by exact fun w hw => toBlobsS_spec w _ (rd_carry h2 hw) (by omega)) ?_
      rintro v M1 ⟨n4, hv, hd4, rfl⟩
      subst hv
      simp only [List.cons_append, List.nil_append]
      refine L_assign rfl rfl ?_
      refine L_nil ?_
      refine W_seq ?_
      refine W_region ?_
      refine L_loadW rfl rfl (by first | exact RdC.blk (by repeat (first | exact List.Mem.head _ | apply List.Mem.tail))) (by exact agg53) ?_
      refine L_move rfl rfl ?_
      refine L_callX rfl fn37 rfl (by exact fun w hw => iWhole_spec w n3 n4 (rd_of_tree (by repeat (first | exact List.Mem.head _ | apply List.Mem.tail)) hw.sees) (rd_of_tree (by repeat (first | exact List.Mem.head _ | apply List.Mem.tail)) hw.sees) (by rw [hd3]; exact ho1) (by rw [hd4]; exact ho2) (rd_carry hg0 hw)) ?_
      refine L_assign rfl rfl ?_
      refine L_nil ?_
      refine W_seq ?_
      refine W_seq ?_
      refine W_region ?_
      refine L_move rfl rfl ?_
      refine L_move rfl rfl ?_
      refine L_binV rfl rfl rfl (bv_bneq und4) ?_
      refine L_nil ?_
      refine W_weaken (l' := [(1, _), (2, _), (7, _), (8, _), (34, _)]) (Sub.cons rfl (Sub.cons rfl (Sub.cons rfl (Sub.cons rfl (Sub.cons rfl (Sub.nil _)))))) (MSub.refl _) ?_
      refine W_cond rfl (fun hc12 => ?_) (fun hc12 => ?_)
      · skip
        refine W_seq ?_
        refine W_region ?_
        refine L_assign rfl rfl ?_
        refine L_nil ?_
        refine W_ret ?_
        -- return 3 (R13)
        refine res1 rfl (ResOK.tmp rfl) ⟨?_, rfl⟩ (MSub.nil _)
        first
          | rfl
          | (rename_i hz; simp [*] at hz; done)
          | (simp_all; done)
      · skip
        refine W_skip ?_
        refine W_seq ?_
        refine W_seq ?_
        refine W_D0 [39] mix (by kernel_rfl) rfl ?_
        refine D_loadW GC.none (OpV.t rfl) (fun hg => (by first | exact RdC.blk (by repeat (first | exact List.Mem.head _ | apply List.Mem.tail)))) (by exact agg53) ?_
        refine D_loadW GC.none (OpV.t rfl) (fun hg => (by first | exact RdC.blk (by repeat (first | exact List.Mem.head _ | apply List.Mem.tail)))) (by exact agg48) ?_
        refine D_call1R (fun v M => ∃ m : T_Catalog, v = .agg (GT.cells m).toArray ∧ GT.dat m = GT.dat t1 ∧ M = [treeH m]) fn33 (OpVs.cons (OpV.t rfl) (OpVs.nil)) (by exact fun w F hF hM => (fun w hw => toCatalog_spec w _ (rd_carry h1 hw) (by omega)) w hF) ?_
        refine D_callR [_, _] (FC True (.bool true)) fn35 ⟨⟨_, rfl, fun _ _ h => h⟩, ⟨_, rfl, fun _ _ h => h⟩, trivial⟩ (by
          rintro w F vs hw hM ⟨v1, u1, M1, rfl, ⟨rfl, hx1, _⟩, _, v2, u2, M2, rfl, ⟨m2, rfl, hd2x, rfl⟩, hin, rfl⟩
          obtain rfl := hx1 trivial
          have h := eqCatalog_spec w n3 m2 (rd_of_tree (hM _ (by repeat (first | exact List.Mem.head _ | apply List.Mem.tail))) hw.sees) (rd_of_tree (hin _ (List.mem_singleton.2 rfl)) hw.sees)
          rw [eqB_true.2 (hd3.trans hd2x.symm)] at h
          exact h.toFC) ?_
        refine D_not GC.none (OpV.t rfl) ?_
        refine DV_nil ?_
        refine Give_is rfl rfl ?_
        refine Give_drop rfl ?_
        refine Give_drop rfl ?_
        refine Give_drop rfl ?_
        refine Give_drop rfl ?_
        refine Give_nil ?_
        refine W_weaken (l' := [(1, _), (8, _), (39, _)]) (Sub.cons rfl (Sub.cons rfl (Sub.cons rfl (Sub.nil _)))) (MSub.refl _) ?_
        refine W_condF rfl ?_
        refine W_skip ?_
        refine W_seq ?_
        refine W_seq ?_
        refine W_region ?_
        refine L_move rfl rfl ?_
        refine L_move rfl rfl ?_
        refine L_callR rfl fn26 rfl (by exact fun w hw => toBlobsS_spec w _ (rd_carry h2 hw) (by omega)) ?_
        rintro v M1 ⟨n6, hv, hd6, rfl⟩
        subst hv
        simp only [List.cons_append, List.nil_append]
        refine L_callX rfl fn28 rfl (by exact fun w hw => (by have h := eqBlobsS_spec w n4 n6 (rd_of_tree (by repeat (first | exact List.Mem.head _ | apply List.Mem.tail)) hw.sees) (rd_of_tree (by repeat (first | exact List.Mem.head _ | apply List.Mem.tail)) hw.sees); rw [eqB_true.2 (hd4.trans hd6.symm)] at h; exact h)) ?_
        refine L_not rfl rfl ?_
        refine L_nil ?_
        refine W_weaken (l' := [(44, _)]) (Sub.cons rfl (Sub.nil _)) (MSub.refl _) ?_
        refine W_condF rfl ?_
        refine W_skip ?_
        refine W_seq ?_
        refine W_region ?_
        refine L_assign rfl rfl ?_
        refine L_nil ?_
        refine W_ret ?_
        -- return 4 (R18)
        refine res1 rfl (ResOK.tmp rfl) ⟨?_, rfl⟩ (MSub.nil _)
        first
          | rfl
          | (rename_i hz; simp [*] at hz; done)
          | (simp_all; done)

end Go.Proofs.SL
