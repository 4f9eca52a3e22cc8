import Derived.Test.YtfcbkchggigoeaaT7
namespace Go.Proofs.SL
open Go
theorem agg47 : aggOf Try.prog 47 = some 2 := by kernel_rfl
theorem fn21 : IsFn Try.prog 21 := ⟨_, Try.func21, by kernel_rfl, rfl⟩
theorem fn23 : IsFn Try.prog 23 := ⟨_, Try.func23, by kernel_rfl, rfl⟩
theorem fn22 : IsFn Try.prog 22 := ⟨_, Try.func22, by kernel_rfl, rfl⟩
theorem fn24 : IsFn Try.prog 24 := ⟨_, Try.func24, by kernel_rfl, rfl⟩
theorem fn25 : IsFn Try.prog 25 := ⟨_, Try.func25, by kernel_rfl, rfl⟩
theorem lawFnExactUpHas (w : World) (t1 : T_Ups) (t2 : ByteArray) (h1 : GT.rd w [] t1) (h2 : GT.rd w [] t2) : Spec Try.prog 5 [.agg (GT.cells t1).toArray, .string t2].toArray w [] (IsV (.bool true)) := by
  refine Spec.intro Try.func5 rfl Try.ntmps5 rfl ?_
  refine W_seq ?_
  refine W_region ?_
  refine L_box rfl rfl (fun bk2 => ?_)
  refine L_assign rfl rfl ?_
  refine L_nil ?_
  refine W_seq ?_
  refine W_seq ?_
  refine W_region ?_
  refine L_move rfl rfl ?_
  refine L_lenT rfl rfl str9 ?_
  refine L_binV rfl rfl rfl bv_gtr ?_
  refine L_nil ?_
  refine W_weaken (l' := [(1, _), (2, _), (11, _)]) (Sub.cons rfl (Sub.cons rfl (Sub.cons rfl (Sub.nil _)))) (MSub.refl _) ?_
  refine W_cond rfl (fun hc1 => ?_) (fun hc1 => ?_)
  · skip
    refine W_seq ?_
    refine W_region ?_
    refine L_assign rfl rfl ?_
    refine L_nil ?_
    refine W_ret ?_
    -- return 1 (R2)
    refine res1 rfl (ResOK.tmp rfl) ⟨?_, rfl⟩ (MSub.nil _)
    first
      | rfl
      | (rename_i hz; simp [*] at hz; done)
      | (simp_all; done)
  · skip
    refine W_skip ?_
    refine W_seq ?_
    refine W_region ?_
    refine L_assign rfl rfl ?_
    refine L_nil ?_
    refine W_seq ?_
    refine W_region ?_
    refine L_loadW rfl rfl (by first | exact RdC.blk (by repeat (first | exact List.Mem.head _ | apply List.Mem.tail))) (by exact agg47) ?_
    refine L_move rfl rfl ?_
    refine L_callX rfl fn21 rfl (by exact fun w hw => szUps_spec w t1 (1048576) (by omega) (by omega) (rd_carry h1 hw)) ?_
    refine L_assign rfl rfl ?_
    refine L_nil ?_
    refine W_seq ?_
    refine W_seq ?_
    refine W_region ?_
    refine L_move rfl rfl ?_
    refine L_binV rfl rfl rfl bv_lss ?_
    refine L_nil ?_
    refine W_weaken (l' := [(1, _), (2, _), (16, _)]) (Sub.cons rfl (Sub.cons rfl (Sub.cons rfl (Sub.nil _)))) (MSub.refl _) ?_
    refine W_cond rfl (fun hc5 => ?_) (fun hc5 => ?_)
    · skip
      skip
      refine W_seq ?_
      refine W_region ?_
      refine L_assign rfl rfl ?_
      refine L_nil ?_
      refine W_ret ?_
      -- return 2 (R6)
      refine res1 rfl (ResOK.tmp rfl) ⟨?_, rfl⟩ (MSub.nil _)
      first
        | rfl
        | (rename_i hz; simp [*] at hz; done)
        | (simp_all; done)
    · skip
      have hb1 : (Bk.bulk t1 : Int) ≤ 1048576 := by
        rcases Int.decLt (1048576) (Bk.bulk t1 : Int) with hn | hn
        · omega
        · rw [if_neg (by omega)] at hc5; simp at hc5
      rw [if_pos hb1]
      refine W_skip ?_
      refine W_seq ?_
      refine W_region ?_
      refine L_loadW rfl rfl (by first | exact RdC.blk (by repeat (first | exact List.Mem.head _ | apply List.Mem.tail))) (by exact agg47) ?_
      refine L_callR rfl fn23 rfl (by exact fun w hw => toUps_spec w _ (rd_carry h1 hw) (by omega)) ?_
      rintro v M1 ⟨n1, hv, hd1, rfl⟩
      subst hv
      simp only [List.cons_append, List.nil_append]
      refine L_move rfl rfl ?_
      refine L_callX rfl fn22 rfl (by exact fun w hw => sUpHas_spec w n1 t2 (rd_of_tree (by repeat (first | exact List.Mem.head _ | apply List.Mem.tail)) hw.sees)) ?_
      refine L_assign rfl rfl ?_
      refine L_nil ?_
      refine W_seq ?_
      refine W_region ?_
      refine L_loadW rfl rfl (by first | exact RdC.blk (by repeat (first | exact List.Mem.head _ | apply List.Mem.tail))) (by exact agg47) ?_
      refine L_callR rfl fn23 rfl (by exact fun w hw => toUps_spec w _ (rd_carry h1 hw) (by omega)) ?_
      rintro v M1 ⟨n2, hv, hd2, rfl⟩
      subst hv
      simp only [List.cons_append, List.nil_append]
      refine L_alloc rfl zero52 (fun bk7 => ?_)
      refine L_storeW rfl rfl (by repeat (first | exact Pick.here _ | apply Pick.there)) (by exact agg52) (by rfl) (by first | (simp [Value.oneCell', TL.hdr]; done) | exact fun v hv => GT.one _ v hv) ?_
      refine L_nil ?_
      refine W_seq ?_
      refine W_region ?_
      refine L_loadW rfl rfl (by first | exact RdC.blk (by repeat (first | exact List.Mem.head _ | apply List.Mem.tail))) (by exact agg52) ?_
      refine L_move rfl rfl ?_
      refine L_callX rfl fn24 rfl (by exact fun w hw => iUpHas_spec w n2 t2 (rd_of_tree (by repeat (first | exact List.Mem.head _ | apply List.Mem.tail)) hw.sees)) ?_
      refine L_assign rfl rfl ?_
      refine L_nil ?_
      refine W_seq ?_
      refine W_seq ?_
      refine W_region ?_
      refine L_move rfl rfl ?_
      refine L_move rfl rfl ?_
      refine L_binV rfl rfl rfl bv_neq ?_
      refine L_nil ?_
      refine W_weaken (l' := [(2, _), (7, _), (28, _)]) (Sub.cons rfl (Sub.cons rfl (Sub.cons rfl (Sub.nil _)))) (MSub.refl _) ?_
      refine W_cond rfl (fun hc10 => ?_) (fun hc10 => ?_)
      · skip
        refine W_seq ?_
        refine W_region ?_
        refine L_assign rfl rfl ?_
        refine L_nil ?_
        refine W_ret ?_
        -- return 3 (R11)
        refine res1 rfl (ResOK.tmp rfl) ⟨?_, rfl⟩ (MSub.nil _)
        first
          | rfl
          | (rename_i hz; simp [*] at hz; done)
          | (simp_all; done)
      · skip
        refine W_skip ?_
        refine W_seq ?_
        refine W_seq ?_
        refine W_D0 [33] mix (by kernel_rfl) rfl ?_
        refine D_loadW GC.none (OpV.t rfl) (fun hg => (by first | exact RdC.blk (by repeat (first | exact List.Mem.head _ | apply List.Mem.tail)))) (by exact agg52) ?_
        refine D_loadW GC.none (OpV.t rfl) (fun hg => (by first | exact RdC.blk (by repeat (first | exact List.Mem.head _ | apply List.Mem.tail)))) (by exact agg47) ?_
        refine D_call1R (fun v M => ∃ m : T_Ups, v = .agg (GT.cells m).toArray ∧ GT.dat m = GT.dat t1 ∧ M = [treeH m]) fn23 (OpVs.cons (OpV.t rfl) (OpVs.nil)) (by exact fun w F hF hM => (fun w hw => toUps_spec w _ (rd_carry h1 hw) (by omega)) w hF) ?_
        refine D_callR [_, _] (FC True (.bool true)) fn25 ⟨⟨_, rfl, fun _ _ h => h⟩, ⟨_, rfl, fun _ _ h => h⟩, trivial⟩ (by
          rintro w F vs hw hM ⟨v1, u1, M1, rfl, ⟨rfl, hx1, _⟩, _, v2, u2, M2, rfl, ⟨m2, rfl, hd2x, rfl⟩, hin, rfl⟩
          obtain rfl := hx1 trivial
          have h := eqUps_spec w n2 m2 (rd_of_tree (hM _ (by repeat (first | exact List.Mem.head _ | apply List.Mem.tail))) hw.sees) (rd_of_tree (hin _ (List.mem_singleton.2 rfl)) hw.sees)
          rw [eqB_true.2 (hd2.trans hd2x.symm)] at h
          exact h.toFC) ?_
        refine D_not GC.none (OpV.t rfl) ?_
        refine DV_nil ?_
        refine Give_is rfl rfl ?_
        refine Give_drop rfl ?_
        refine Give_drop rfl ?_
        refine Give_drop rfl ?_
        refine Give_drop rfl ?_
        refine Give_nil ?_
        refine W_weaken (l' := [(33, _)]) (Sub.cons rfl (Sub.nil _)) (MSub.refl _) ?_
        refine W_condF rfl ?_
        refine W_skip ?_
        refine W_seq ?_
        refine W_region ?_
        refine L_assign rfl rfl ?_
        refine L_nil ?_
        refine W_ret ?_
        -- return 4 (R14)
        refine res1 rfl (ResOK.tmp rfl) ⟨?_, rfl⟩ (MSub.nil _)
        first
          | rfl
          | (rename_i hz; simp [*] at hz; done)
          | (simp_all; done)

end Go.Proofs.SL
