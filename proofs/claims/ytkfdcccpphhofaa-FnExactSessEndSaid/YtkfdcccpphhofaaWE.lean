/- Walks of functions, each with the function on data that it follows. -/
import Derived.Test.YtkfdcccpphhofaaLD
namespace Go.Proofs.SL
open Go
theorem fn94 : IsFn Try.prog 94 := ⟨_, Try.func94, by kernel_rfl, rfl⟩
theorem fn95 : IsFn Try.prog 95 := ⟨_, Try.func95, by kernel_rfl, rfl⟩
theorem fn96 : IsFn Try.prog 96 := ⟨_, Try.func96, by kernel_rfl, rfl⟩
noncomputable def s_SessEnd (a0 : D_Desks) (a1 : Int) : Option (D_Desks × ByteArray × Bool) :=
  Option.bind (s_DesksOk (a0.1, a0.2.1, a0.2.2)) (fun y1 => cond (!y1) (some ((0, 0, ([] : List D_Sess)), ByteArray.empty, false)) (Option.bind (s_l29Copy (a0.1, a0.2.1, a0.2.2)) (fun y3 => Option.bind (s_l29At (y3.1, y3.2.1, y3.2.2) a1) (fun y4 => cond (decide (y4 < 0)) (some ((y3.1, y3.2.1, y3.2.2), ByteArray.empty, false)) (Option.bind (idx y3.2.2 y4) (fun y6 => Option.bind (s_Joined y6.2.2.2) (fun y7 => Option.bind (some ([] : List D_Sess)) (fun y9 => Option.bind (slcP y3.2.2 (0 : Int) y4) (fun y10 => Option.bind (chkP (decide (0 ≤ ((0 : Int)).toNat))) (fun y13 => Option.bind (appP y9 y10) (fun y14 => Option.bind (slcP y3.2.2 (IntKind.wrap .i64 (y4 + 1)) (y3.2.2.length : Int)) (fun y15 => Option.bind (chkP (decide ((y4).toNat ≤ (IntKind.wrap .i64 (y4 + 1)).toNat))) (fun y18 => Option.bind (appP y14 y15) (fun y19 => some ((y3.1, y3.2.1, y19), y7, true)))))))))))))))

theorem s_SessEnd_walk (w : World) (a0 : T_Desks) (a1 : Int) (h0 : GT.rd w [] a0) (r : D_Desks × ByteArray × Bool) (hp : s_SessEnd (GT.dat a0) a1 = some r) : Spec Try.prog 33 [.agg (GT.cells a0).toArray, .int .i64 a1].toArray w [] (fun v M => ∃ (x0 : T_Desks) (x1 : ByteArray) (x2 : Bool), v = .tuple #[.agg (GT.cells x0).toArray, .string x1, .bool x2] ∧ (GT.dat x0, GT.dat x1, GT.dat x2) = r ∧ M = [treeH x0]) := by
  obtain ⟨a0_1, a0_2, a0_3⟩ := a0
  change Spec _ _ [Value.agg #[.int .i64 a0_1, .int .i64 a0_2, (TL.hdr a0_3)], .int .i64 a1].toArray w [] _
  refine Spec.intro Try.func33 rfl Try.ntmps33 rfl ?_
  unfold s_SessEnd at hp
  try dsimp only [dat_pair, dat_int, dat_bool, dat_str] at hp
  refine W_seq ?_
  refine W_region ?_
  refine L_box rfl rfl (fun bk2 => ?_)
  refine L_alloc rfl zero28 (fun bk4 => ?_)
  refine L_assign rfl rfl ?_
  refine L_assign rfl rfl ?_
  refine L_nil ?_
  refine W_seq ?_
  refine W_seq ?_
  refine W_region ?_
  refine L_loadW rfl rfl (RdC.blk (by first | (with_reducible repeat (first | exact List.Mem.head _ | apply List.Mem.tail)); done | (repeat (first | exact List.Mem.head _ | apply List.Mem.tail)))) (by exact agg28) ?_
  have ho := hp; clear hp; obtain ⟨y1, hy1, hp⟩ := bind_any ho; clear ho
  refine L_callX rfl fn36 rfl (by exact fun w hw => s_DesksOk_walk w (a0_1, a0_2, a0_3) (RdT.now (RdT.pair RdT.int (RdT.pair RdT.int (RdT.old h0.2.2))) hw) _ hy1) ?_
  refine L_not rfl rfl ?_
  refine L_nil ?_
  refine W_weaken (l' := [(1, _), (2, _), (4, _), (13, _)]) (Sub.cons rfl (Sub.cons rfl (Sub.cons rfl (Sub.cons rfl (Sub.nil _))))) (MSub.refl _) ?_
  refine W_cond rfl (fun hc2 => ?_) (fun hc2 => ?_)
  · skip
    replace hp := cond_t hc2 hp
    refine W_seq ?_
    refine W_region ?_
    refine L_build (xs := []) (cs := [.int .i64 0, .int .i64 0, (TL.hdr (TL.nil T_Sess 0))]) rfl rfl bld28 rfl ?_
    refine L_storeW rfl rfl (by first | (with_reducible repeat (first | exact Pick.here _ | apply Pick.there)); done | (repeat (first | exact Pick.here _ | apply Pick.there))) (by exact agg28) (by rfl) (by first | exact allOne rfl | exact fun v hv => GT.one _ v hv | (simp [Value.oneCell', TL.hdr, Value.cells]; done)) ?_
    refine L_assign rfl rfl ?_
    refine L_assign rfl rfl ?_
    refine L_nil ?_
    obtain rfl := Option.some.inj hp
    refine W_conv (M' := treeH (TL.nil T_Sess 0) :: _) (fun w h => addNilT (τ := T_Sess) 0 h) ?_
    refine W_conv (M' := treeH ((0, (TL.nil T_Sess 0)) : Int × TL T_Sess) :: _) (fun w h => jnR (a := 0) (b := (TL.nil T_Sess 0)) (by first | (with_reducible repeat (first | exact Pick.here _ | apply Pick.there)); done | (repeat (first | exact Pick.here _ | apply Pick.there))) h) ?_
    refine W_conv (M' := treeH ((0, (0, (TL.nil T_Sess 0))) : Int × Int × TL T_Sess) :: _) (fun w h => jnR (a := 0) (b := (0, (TL.nil T_Sess 0))) (by first | (with_reducible repeat (first | exact Pick.here _ | apply Pick.there)); done | (repeat (first | exact Pick.here _ | apply Pick.there))) h) ?_
    refine W_ret ?_
    refine res3 rfl (ResOK.cell rfl (by first | (with_reducible repeat (first | exact List.Mem.head _ | apply List.Mem.tail)); done | (repeat (first | exact List.Mem.head _ | apply List.Mem.tail))) (by exact agg28)) (ResOK.tmp rfl) (ResOK.tmp rfl) ⟨(0, 0, (TL.nil T_Sess 0)), ByteArray.empty, false, rfl, rfl, rfl⟩ (MSub.cons (by first | (with_reducible repeat (first | exact Pick.here _ | apply Pick.there)); done | (repeat (first | exact Pick.here _ | apply Pick.there))) (MSub.nil _))
  · skip
    replace hp := cond_f hc2 hp
    refine W_skip ?_
    refine W_seq ?_
    refine W_region ?_
    refine L_loadW rfl rfl (RdC.blk (by first | (with_reducible repeat (first | exact List.Mem.head _ | apply List.Mem.tail)); done | (repeat (first | exact List.Mem.head _ | apply List.Mem.tail)))) (by exact agg28) ?_
    have ho := hp; clear hp; obtain ⟨y3, hy3, hp⟩ := bind_any ho; clear ho
    refine L_callR rfl fn71 rfl (by exact fun w hw => s_l29Copy_walk w (a0_1, a0_2, a0_3) (RdT.now (RdT.pair RdT.int (RdT.pair RdT.int (RdT.old h0.2.2))) hw) _ hy3) ?_
    rintro vy3 My3 ⟨y3x0, hvy3, hdy3, rfl⟩
    subst hvy3
    subst hdy3
    obtain ⟨y3x0_1, y3x0_2, y3x0_3⟩ := y3x0
    simp only [cells_pair, cells_int, cells_bool, cells_str, cells_TL, List.cons_append, List.nil_append]
    try dsimp only [dat_pair, dat_int, dat_bool, dat_str] at hp
    refine L_conv (M' := treeH (y3x0_2, y3x0_3) :: _) (fun w h => exR (a := y3x0_1) (by first | (with_reducible repeat (first | exact Pick.here _ | apply Pick.there)); done | (repeat (first | exact Pick.here _ | apply Pick.there))) h) ?_
    refine L_conv (M' := treeH y3x0_3 :: _) (fun w h => exR (a := y3x0_2) (by first | (with_reducible repeat (first | exact Pick.here _ | apply Pick.there)); done | (repeat (first | exact Pick.here _ | apply Pick.there))) h) ?_
    refine L_alloc rfl zero28 (fun bk7 => ?_)
    refine L_storeW rfl rfl (by first | (with_reducible repeat (first | exact Pick.here _ | apply Pick.there)); done | (repeat (first | exact Pick.here _ | apply Pick.there))) (by exact agg28) (by rfl) (by first | exact allOne rfl | exact fun v hv => GT.one _ v hv | (simp [Value.oneCell', TL.hdr, Value.cells]; done)) ?_
    refine L_nil ?_
    refine W_seq ?_
    refine W_region ?_
    refine L_loadW rfl rfl (RdC.blk (by first | (with_reducible repeat (first | exact List.Mem.head _ | apply List.Mem.tail)); done | (repeat (first | exact List.Mem.head _ | apply List.Mem.tail)))) (by exact agg28) ?_
    refine L_move rfl rfl ?_
    have ho := hp; clear hp; obtain ⟨y4, hy4, hp⟩ := bind_any ho; clear ho
    refine L_callX rfl fn72 rfl (by exact fun w hw => s_l29At_walk w (y3x0_1, y3x0_2, y3x0_3) a1 (RdT.now (RdT.pair RdT.int (RdT.pair RdT.int (RdT.tree (by first | (with_reducible repeat (first | exact List.Mem.head _ | apply List.Mem.tail)); done | (repeat (first | exact List.Mem.head _ | apply List.Mem.tail)))))) hw) _ hy4) ?_
    refine L_assign rfl rfl ?_
    refine L_nil ?_
    refine W_seq ?_
    refine W_seq ?_
    refine W_region ?_
    refine L_move rfl rfl ?_
    refine L_binV rfl rfl rfl bv_lss ?_
    refine L_nil ?_
    refine W_weaken (l' := [(4, _), (7, _), (8, _), (21, _)]) (Sub.cons rfl (Sub.cons rfl (Sub.cons rfl (Sub.cons rfl (Sub.nil _))))) (MSub.refl _) ?_
    refine W_cond rfl (fun hc5 => ?_) (fun hc5 => ?_)
    · skip
      replace hp := cond_t hc5 hp
      refine W_seq ?_
      refine W_region ?_
      refine L_loadW rfl rfl (RdC.blk (by first | (with_reducible repeat (first | exact List.Mem.head _ | apply List.Mem.tail)); done | (repeat (first | exact List.Mem.head _ | apply List.Mem.tail)))) (by exact agg28) ?_
      refine L_storeW rfl rfl (by first | (with_reducible repeat (first | exact Pick.here _ | apply Pick.there)); done | (repeat (first | exact Pick.here _ | apply Pick.there))) (by exact agg28) (by rfl) (by first | exact allOne rfl | exact fun v hv => GT.one _ v hv | (simp [Value.oneCell', TL.hdr, Value.cells]; done)) ?_
      refine L_assign rfl rfl ?_
      refine L_assign rfl rfl ?_
      refine L_nil ?_
      obtain rfl := Option.some.inj hp
      refine W_conv (M' := treeH ((y3x0_2, y3x0_3) : Int × TL T_Sess) :: _) (fun w h => jnR (a := y3x0_2) (b := y3x0_3) (by first | (with_reducible repeat (first | exact Pick.here _ | apply Pick.there)); done | (repeat (first | exact Pick.here _ | apply Pick.there))) h) ?_
      refine W_conv (M' := treeH ((y3x0_1, (y3x0_2, y3x0_3)) : Int × Int × TL T_Sess) :: _) (fun w h => jnR (a := y3x0_1) (b := (y3x0_2, y3x0_3)) (by first | (with_reducible repeat (first | exact Pick.here _ | apply Pick.there)); done | (repeat (first | exact Pick.here _ | apply Pick.there))) h) ?_
      refine W_ret ?_
      refine res3 rfl (ResOK.cell rfl (by first | (with_reducible repeat (first | exact List.Mem.head _ | apply List.Mem.tail)); done | (repeat (first | exact List.Mem.head _ | apply List.Mem.tail))) (by exact agg28)) (ResOK.tmp rfl) (ResOK.tmp rfl) ⟨(y3x0_1, y3x0_2, y3x0_3), ByteArray.empty, false, rfl, rfl, rfl⟩ (MSub.cons (by first | (with_reducible repeat (first | exact Pick.here _ | apply Pick.there)); done | (repeat (first | exact Pick.here _ | apply Pick.there))) (MSub.nil _))
    · skip
      replace hp := cond_f hc5 hp
      refine W_skip ?_
      refine W_seq ?_
      refine W_region ?_
      refine L_fieldAddr rfl rfl fld28_2 ?_
      refine L_load rfl rfl (RdC.blk (by first | (with_reducible repeat (first | exact List.Mem.head _ | apply List.Mem.tail)); done | (repeat (first | exact List.Mem.head _ | apply List.Mem.tail)))) one26 rfl ?_
      refine L_move rfl rfl ?_
      have ho := hp; clear hp; obtain ⟨u6, hy6, hp⟩ := idx_bind ho; clear ho
      obtain ⟨u6_1, u6_2, u6_3, u6_4⟩ := u6
      refine L_idxA (X := y3x0_3) rfl rfl rfl el26 (RdT.tree (by first | (with_reducible repeat (first | exact List.Mem.head _ | apply List.Mem.tail)); done | (repeat (first | exact List.Mem.head _ | apply List.Mem.tail)))) hy6 ?_
      refine L_fieldAddr rfl rfl fld102_3 ?_
      refine L_load rfl rfl (RdT.at (RdT.tree (by first | (with_reducible repeat (first | exact List.Mem.head _ | apply List.Mem.tail)); done | (repeat (first | exact List.Mem.head _ | apply List.Mem.tail)))) (hy6).2) one38 rfl ?_
      have ho := hp; clear hp; obtain ⟨y7, hy7, hp⟩ := bind_any ho; clear ho
      refine L_callX rfl fn94 rfl (by exact fun w hw => s_Joined_walk w u6_4 (RdT.now (RdT.snd (RdT.snd (RdT.snd (RdT.of (RdT.tree (by first | (with_reducible repeat (first | exact List.Mem.head _ | apply List.Mem.tail)); done | (repeat (first | exact List.Mem.head _ | apply List.Mem.tail)))) (hy6).2)))) hw) _ hy7) ?_
      refine L_assign rfl rfl ?_
      refine L_nil ?_
      refine W_seq ?_
      refine W_region ?_
      have ho := hp; clear hp; obtain ⟨y9, hy9, hp⟩ := bind_any ho; clear ho
      refine L_mk0 T_Sess rfl el26 (fun X8 hdX8 => ?_)
      obtain rfl : GT.dat X8 = y9 := hdX8.trans (Option.some.inj hy9)
      clear hy9 hdX8
      refine L_fieldAddr rfl rfl fld28_2 ?_
      refine L_load rfl rfl (RdC.blk (by first | (with_reducible repeat (first | exact List.Mem.head _ | apply List.Mem.tail)); done | (repeat (first | exact List.Mem.head _ | apply List.Mem.tail)))) one26 rfl ?_
      refine L_move rfl rfl ?_
      refine L_conv (M' := rowH y3x0_3 :: elsT (y3x0_3.els.drop 0) :: _) (fun w h => els_start (by first | (with_reducible repeat (first | exact Pick.here _ | apply Pick.there)); done | (repeat (first | exact Pick.here _ | apply Pick.there))) h) ?_
      have ho := hp; clear hp; obtain ⟨y10, hy10, hp⟩ := bind_any ho; clear ho
      refine L_slM (X := y3x0_3) rfl rfl rfl rfl el26 rfl (by first | (with_reducible repeat (first | exact List.Mem.head _ | apply List.Mem.tail)); done | (repeat (first | exact List.Mem.head _ | apply List.Mem.tail))) hy10 (fun X11 hdX11 heX11 => ?_)
      have hsX11 := hy10
      subst hdX11
      have ho := hp; clear hp; obtain ⟨y13, hy13, hp⟩ := bind_any ho; clear ho
      have ho := hp; clear hp; obtain ⟨y14, hy14, hp⟩ := bind_any ho; clear ho
      refine L_appM (X := X8) (V := y3x0_3) (Y := X11) rfl rfl rfl el26 rfl rfl (by first | (with_reducible repeat (first | exact Pick.here _ | apply Pick.there)); done | (repeat (first | exact Pick.here _ | apply Pick.there))) heX11 hsX11 (by first | (with_reducible repeat (first | exact List.Mem.head _ | apply List.Mem.tail)); done | (repeat (first | exact List.Mem.head _ | apply List.Mem.tail))) (by first | (with_reducible repeat (first | exact Pick.here _ | apply Pick.there)); done | (repeat (first | exact Pick.here _ | apply Pick.there))) hy13 hy14 (by decide) (fun X12 hdX12 => ?_)
      subst hdX12
      refine L_assign rfl rfl ?_
      refine L_nil ?_
      refine W_seq ?_
      refine W_region ?_
      refine L_move rfl rfl ?_
      refine L_fieldAddr rfl rfl fld28_2 ?_
      refine L_load rfl rfl (RdC.blk (by first | (with_reducible repeat (first | exact List.Mem.head _ | apply List.Mem.tail)); done | (repeat (first | exact List.Mem.head _ | apply List.Mem.tail)))) one26 rfl ?_
      refine L_move rfl rfl ?_
      refine L_binV rfl rfl rfl bv_add ?_
      have ho := hp; clear hp; obtain ⟨y15, hy15, hp⟩ := bind_any ho; clear ho
      refine L_slM (X := y3x0_3) rfl rfl rfl rfl el26 rfl (by first | (with_reducible repeat (first | exact List.Mem.head _ | apply List.Mem.tail)); done | (repeat (first | exact List.Mem.head _ | apply List.Mem.tail))) hy15 (fun X16 hdX16 heX16 => ?_)
      have hsX16 := hy15
      subst hdX16
      have ho := hp; clear hp; obtain ⟨y18, hy18, hp⟩ := bind_any ho; clear ho
      have ho := hp; clear hp; obtain ⟨y19, hy19, hp⟩ := bind_any ho; clear ho
      refine L_appM (X := X12) (V := y3x0_3) (Y := X16) rfl rfl rfl el26 rfl rfl (by first | (with_reducible repeat (first | exact Pick.here _ | apply Pick.there)); done | (repeat (first | exact Pick.here _ | apply Pick.there))) heX16 hsX16 (by first | (with_reducible repeat (first | exact List.Mem.head _ | apply List.Mem.tail)); done | (repeat (first | exact List.Mem.head _ | apply List.Mem.tail))) (by first | (with_reducible repeat (first | exact Pick.here _ | apply Pick.there)); done | (repeat (first | exact Pick.here _ | apply Pick.there))) hy18 hy19 (by decide) (fun X17 hdX17 => ?_)
      subst hdX17
      refine L_fieldAddr rfl rfl fld28_2 ?_
      refine L_store rfl rfl (by first | (with_reducible repeat (first | exact Pick.here _ | apply Pick.there)); done | (repeat (first | exact Pick.here _ | apply Pick.there))) one26 rfl rfl ?_
      refine L_nil ?_
      refine W_seq ?_
      refine W_region ?_
      refine L_loadW rfl rfl (RdC.blk (by first | (with_reducible repeat (first | exact List.Mem.head _ | apply List.Mem.tail)); done | (repeat (first | exact List.Mem.head _ | apply List.Mem.tail)))) (by exact agg28) ?_
      refine L_move rfl rfl ?_
      refine L_storeW rfl rfl (by first | (with_reducible repeat (first | exact Pick.here _ | apply Pick.there)); done | (repeat (first | exact Pick.here _ | apply Pick.there))) (by exact agg28) (by rfl) (by first | exact allOne rfl | exact fun v hv => GT.one _ v hv | (simp [Value.oneCell', TL.hdr, Value.cells]; done)) ?_
      refine L_assign rfl rfl ?_
      refine L_assign rfl rfl ?_
      refine L_nil ?_
      obtain rfl := Option.some.inj hp
      refine W_conv (M' := treeH ((y3x0_2, X17) : Int × TL T_Sess) :: _) (fun w h => jnR (a := y3x0_2) (b := X17) (by first | (with_reducible repeat (first | exact Pick.here _ | apply Pick.there)); done | (repeat (first | exact Pick.here _ | apply Pick.there))) h) ?_
      refine W_conv (M' := treeH ((y3x0_1, (y3x0_2, X17)) : Int × Int × TL T_Sess) :: _) (fun w h => jnR (a := y3x0_1) (b := (y3x0_2, X17)) (by first | (with_reducible repeat (first | exact Pick.here _ | apply Pick.there)); done | (repeat (first | exact Pick.here _ | apply Pick.there))) h) ?_
      refine W_ret ?_
      refine res3 rfl (ResOK.cell rfl (by first | (with_reducible repeat (first | exact List.Mem.head _ | apply List.Mem.tail)); done | (repeat (first | exact List.Mem.head _ | apply List.Mem.tail))) (by exact agg28)) (ResOK.tmp rfl) (ResOK.tmp rfl) ⟨(y3x0_1, y3x0_2, X17), y7, true, rfl, rfl, rfl⟩ (MSub.cons (by first | (with_reducible repeat (first | exact Pick.here _ | apply Pick.there)); done | (repeat (first | exact Pick.here _ | apply Pick.there))) (MSub.nil _))

noncomputable def i_SessEnd (a0 : D_Desks) (a1 : Int) : Option (D_Desks × ByteArray × Bool) :=
  Option.bind (i_DesksOk (a0.1, a0.2.1, a0.2.2)) (fun y1 => cond (!y1) (some ((0, 0, ([] : List D_Sess)), ByteArray.empty, false)) (Option.bind (i_copyDesks (a0.1, a0.2.1, a0.2.2)) (fun y3 => Option.bind (i_Desks_at (a0.1, a0.2.1, a0.2.2) a1) (fun y4 => cond (decide (y4 < 0)) (some ((y3.1, y3.2.1, y3.2.2), ByteArray.empty, false)) (Option.bind (idx a0.2.2 y4) (fun y6 => Option.bind (i_Joined y6.2.2.2) (fun y7 => Option.bind (delP y3.2.2 y4 (IntKind.wrap .i64 (y4 + 1))) (fun y8 => some ((y3.1, y3.2.1, y8), y7, true)))))))))

theorem i_SessEnd_walk (w : World) (a0 : T_Desks) (a1 : Int) (h0 : GT.rd w [] a0) (r : D_Desks × ByteArray × Bool) (hp : i_SessEnd (GT.dat a0) a1 = some r) : Spec Try.prog 34 [.agg (GT.cells a0).toArray, .int .i64 a1].toArray w [] (fun v M => ∃ (x0 : T_Desks) (x1 : ByteArray) (x2 : Bool), v = .tuple #[.agg (GT.cells x0).toArray, .string x1, .bool x2] ∧ (GT.dat x0, GT.dat x1, GT.dat x2) = r ∧ M = [treeH x0]) := by
  obtain ⟨a0_1, a0_2, a0_3⟩ := a0
  change Spec _ _ [Value.agg #[.int .i64 a0_1, .int .i64 a0_2, (TL.hdr a0_3)], .int .i64 a1].toArray w [] _
  refine Spec.intro Try.func34 rfl Try.ntmps34 rfl ?_
  unfold i_SessEnd at hp
  try dsimp only [dat_pair, dat_int, dat_bool, dat_str] at hp
  refine W_seq ?_
  refine W_region ?_
  refine L_box rfl rfl (fun bk2 => ?_)
  refine L_alloc rfl zero28 (fun bk4 => ?_)
  refine L_assign rfl rfl ?_
  refine L_assign rfl rfl ?_
  refine L_nil ?_
  refine W_seq ?_
  refine W_seq ?_
  refine W_region ?_
  refine L_loadW rfl rfl (RdC.blk (by first | (with_reducible repeat (first | exact List.Mem.head _ | apply List.Mem.tail)); done | (repeat (first | exact List.Mem.head _ | apply List.Mem.tail)))) (by exact agg28) ?_
  have ho := hp; clear hp; obtain ⟨y1, hy1, hp⟩ := bind_any ho; clear ho
  refine L_callX rfl fn75 rfl (by exact fun w hw => i_DesksOk_walk w (a0_1, a0_2, a0_3) (RdT.now (RdT.pair RdT.int (RdT.pair RdT.int (RdT.old h0.2.2))) hw) _ hy1) ?_
  refine L_not rfl rfl ?_
  refine L_nil ?_
  refine W_weaken (l' := [(1, _), (2, _), (4, _), (12, _)]) (Sub.cons rfl (Sub.cons rfl (Sub.cons rfl (Sub.cons rfl (Sub.nil _))))) (MSub.refl _) ?_
  refine W_cond rfl (fun hc2 => ?_) (fun hc2 => ?_)
  · skip
    replace hp := cond_t hc2 hp
    refine W_seq ?_
    refine W_region ?_
    refine L_build (xs := []) (cs := [.int .i64 0, .int .i64 0, (TL.hdr (TL.nil T_Sess 0))]) rfl rfl bld28 rfl ?_
    refine L_storeW rfl rfl (by first | (with_reducible repeat (first | exact Pick.here _ | apply Pick.there)); done | (repeat (first | exact Pick.here _ | apply Pick.there))) (by exact agg28) (by rfl) (by first | exact allOne rfl | exact fun v hv => GT.one _ v hv | (simp [Value.oneCell', TL.hdr, Value.cells]; done)) ?_
    refine L_assign rfl rfl ?_
    refine L_assign rfl rfl ?_
    refine L_nil ?_
    obtain rfl := Option.some.inj hp
    refine W_conv (M' := treeH (TL.nil T_Sess 0) :: _) (fun w h => addNilT (τ := T_Sess) 0 h) ?_
    refine W_conv (M' := treeH ((0, (TL.nil T_Sess 0)) : Int × TL T_Sess) :: _) (fun w h => jnR (a := 0) (b := (TL.nil T_Sess 0)) (by first | (with_reducible repeat (first | exact Pick.here _ | apply Pick.there)); done | (repeat (first | exact Pick.here _ | apply Pick.there))) h) ?_
    refine W_conv (M' := treeH ((0, (0, (TL.nil T_Sess 0))) : Int × Int × TL T_Sess) :: _) (fun w h => jnR (a := 0) (b := (0, (TL.nil T_Sess 0))) (by first | (with_reducible repeat (first | exact Pick.here _ | apply Pick.there)); done | (repeat (first | exact Pick.here _ | apply Pick.there))) h) ?_
    refine W_ret ?_
    refine res3 rfl (ResOK.cell rfl (by first | (with_reducible repeat (first | exact List.Mem.head _ | apply List.Mem.tail)); done | (repeat (first | exact List.Mem.head _ | apply List.Mem.tail))) (by exact agg28)) (ResOK.tmp rfl) (ResOK.tmp rfl) ⟨(0, 0, (TL.nil T_Sess 0)), ByteArray.empty, false, rfl, rfl, rfl⟩ (MSub.cons (by first | (with_reducible repeat (first | exact Pick.here _ | apply Pick.there)); done | (repeat (first | exact Pick.here _ | apply Pick.there))) (MSub.nil _))
  · skip
    replace hp := cond_f hc2 hp
    refine W_skip ?_
    refine W_seq ?_
    refine W_region ?_
    refine L_loadW rfl rfl (RdC.blk (by first | (with_reducible repeat (first | exact List.Mem.head _ | apply List.Mem.tail)); done | (repeat (first | exact List.Mem.head _ | apply List.Mem.tail)))) (by exact agg28) ?_
    have ho := hp; clear hp; obtain ⟨y3, hy3, hp⟩ := bind_any ho; clear ho
    refine L_callR rfl fn76 rfl (by exact fun w hw => i_copyDesks_walk w (a0_1, a0_2, a0_3) (RdT.now (RdT.pair RdT.int (RdT.pair RdT.int (RdT.old h0.2.2))) hw) _ hy3) ?_
    rintro vy3 My3 ⟨y3x0, hvy3, hdy3, rfl⟩
    subst hvy3
    subst hdy3
    obtain ⟨y3x0_1, y3x0_2, y3x0_3⟩ := y3x0
    simp only [cells_pair, cells_int, cells_bool, cells_str, cells_TL, List.cons_append, List.nil_append]
    try dsimp only [dat_pair, dat_int, dat_bool, dat_str] at hp
    refine L_conv (M' := treeH (y3x0_2, y3x0_3) :: _) (fun w h => exR (a := y3x0_1) (by first | (with_reducible repeat (first | exact Pick.here _ | apply Pick.there)); done | (repeat (first | exact Pick.here _ | apply Pick.there))) h) ?_
    refine L_conv (M' := treeH y3x0_3 :: _) (fun w h => exR (a := y3x0_2) (by first | (with_reducible repeat (first | exact Pick.here _ | apply Pick.there)); done | (repeat (first | exact Pick.here _ | apply Pick.there))) h) ?_
    refine L_alloc rfl zero28 (fun bk7 => ?_)
    refine L_storeW rfl rfl (by first | (with_reducible repeat (first | exact Pick.here _ | apply Pick.there)); done | (repeat (first | exact Pick.here _ | apply Pick.there))) (by exact agg28) (by rfl) (by first | exact allOne rfl | exact fun v hv => GT.one _ v hv | (simp [Value.oneCell', TL.hdr, Value.cells]; done)) ?_
    refine L_nil ?_
    refine W_seq ?_
    refine W_region ?_
    refine L_loadW rfl rfl (RdC.blk (by first | (with_reducible repeat (first | exact List.Mem.head _ | apply List.Mem.tail)); done | (repeat (first | exact List.Mem.head _ | apply List.Mem.tail)))) (by exact agg28) ?_
    refine L_move rfl rfl ?_
    have ho := hp; clear hp; obtain ⟨y4, hy4, hp⟩ := bind_any ho; clear ho
    refine L_callX rfl fn77 rfl (by exact fun w hw => i_Desks_at_walk w (a0_1, a0_2, a0_3) a1 (RdT.now (RdT.pair RdT.int (RdT.pair RdT.int (RdT.old h0.2.2))) hw) _ hy4) ?_
    refine L_assign rfl rfl ?_
    refine L_nil ?_
    refine W_seq ?_
    refine W_seq ?_
    refine W_region ?_
    refine L_move rfl rfl ?_
    refine L_binV rfl rfl rfl bv_lss ?_
    refine L_nil ?_
    refine W_weaken (l' := [(2, _), (4, _), (7, _), (8, _), (20, _)]) (Sub.cons rfl (Sub.cons rfl (Sub.cons rfl (Sub.cons rfl (Sub.cons rfl (Sub.nil _)))))) (MSub.refl _) ?_
    refine W_cond rfl (fun hc5 => ?_) (fun hc5 => ?_)
    · skip
      replace hp := cond_t hc5 hp
      refine W_seq ?_
      refine W_region ?_
      refine L_loadW rfl rfl (RdC.blk (by first | (with_reducible repeat (first | exact List.Mem.head _ | apply List.Mem.tail)); done | (repeat (first | exact List.Mem.head _ | apply List.Mem.tail)))) (by exact agg28) ?_
      refine L_storeW rfl rfl (by first | (with_reducible repeat (first | exact Pick.here _ | apply Pick.there)); done | (repeat (first | exact Pick.here _ | apply Pick.there))) (by exact agg28) (by rfl) (by first | exact allOne rfl | exact fun v hv => GT.one _ v hv | (simp [Value.oneCell', TL.hdr, Value.cells]; done)) ?_
      refine L_assign rfl rfl ?_
      refine L_assign rfl rfl ?_
      refine L_nil ?_
      obtain rfl := Option.some.inj hp
      refine W_conv (M' := treeH ((y3x0_2, y3x0_3) : Int × TL T_Sess) :: _) (fun w h => jnR (a := y3x0_2) (b := y3x0_3) (by first | (with_reducible repeat (first | exact Pick.here _ | apply Pick.there)); done | (repeat (first | exact Pick.here _ | apply Pick.there))) h) ?_
      refine W_conv (M' := treeH ((y3x0_1, (y3x0_2, y3x0_3)) : Int × Int × TL T_Sess) :: _) (fun w h => jnR (a := y3x0_1) (b := (y3x0_2, y3x0_3)) (by first | (with_reducible repeat (first | exact Pick.here _ | apply Pick.there)); done | (repeat (first | exact Pick.here _ | apply Pick.there))) h) ?_
      refine W_ret ?_
      refine res3 rfl (ResOK.cell rfl (by first | (with_reducible repeat (first | exact List.Mem.head _ | apply List.Mem.tail)); done | (repeat (first | exact List.Mem.head _ | apply List.Mem.tail))) (by exact agg28)) (ResOK.tmp rfl) (ResOK.tmp rfl) ⟨(y3x0_1, y3x0_2, y3x0_3), ByteArray.empty, false, rfl, rfl, rfl⟩ (MSub.cons (by first | (with_reducible repeat (first | exact Pick.here _ | apply Pick.there)); done | (repeat (first | exact Pick.here _ | apply Pick.there))) (MSub.nil _))
    · skip
      replace hp := cond_f hc5 hp
      refine W_skip ?_
      refine W_seq ?_
      refine W_region ?_
      refine L_fieldAddr rfl rfl fld28_2 ?_
      refine L_load rfl rfl (RdC.blk (by first | (with_reducible repeat (first | exact List.Mem.head _ | apply List.Mem.tail)); done | (repeat (first | exact List.Mem.head _ | apply List.Mem.tail)))) one26 rfl ?_
      refine L_move rfl rfl ?_
      have ho := hp; clear hp; obtain ⟨u6, hy6, hp⟩ := idx_bind ho; clear ho
      obtain ⟨u6_1, u6_2, u6_3, u6_4⟩ := u6
      refine L_idxA (X := a0_3) rfl rfl rfl el26 (RdT.old h0.2.2) hy6 ?_
      refine L_fieldAddr rfl rfl fld102_3 ?_
      refine L_load rfl rfl (RdT.at (RdT.old h0.2.2) (hy6).2) one38 rfl ?_
      have ho := hp; clear hp; obtain ⟨y7, hy7, hp⟩ := bind_any ho; clear ho
      refine L_callX rfl fn95 rfl (by exact fun w hw => i_Joined_walk w u6_4 (RdT.now (RdT.snd (RdT.snd (RdT.snd (RdT.of (RdT.old h0.2.2) (hy6).2)))) hw) _ hy7) ?_
      refine L_assign rfl rfl ?_
      refine L_nil ?_
      refine W_seq ?_
      refine W_region ?_
      refine L_fieldAddr rfl rfl fld28_2 ?_
      refine L_load rfl rfl (RdC.blk (by first | (with_reducible repeat (first | exact List.Mem.head _ | apply List.Mem.tail)); done | (repeat (first | exact List.Mem.head _ | apply List.Mem.tail)))) one26 rfl ?_
      refine L_move rfl rfl ?_
      refine L_move rfl rfl ?_
      refine L_binV rfl rfl rfl bv_add ?_
      have ho := hp; clear hp; obtain ⟨y8, hy8, hp⟩ := bind_any ho; clear ho
      refine L_call1 (h := treeH y3x0_3) rfl fn96 rfl (by first | (with_reducible repeat (first | exact Pick.here _ | apply Pick.there)); done | (repeat (first | exact Pick.here _ | apply Pick.there))) (by exact fun w hw => sl_Delete_implSessimplSess_walk w y3x0_3 y4 (IntKind.wrap .i64 (y4 + 1))  _ hy8) ?_
      rintro vy8 My8 ⟨y8x0, hvy8, hdy8, rfl⟩
      subst hvy8
      subst hdy8
      simp only [cells_pair, cells_int, cells_bool, cells_str, cells_TL, List.cons_append, List.nil_append]
      try dsimp only [dat_pair, dat_int, dat_bool, dat_str] at hp
      refine L_fieldAddr rfl rfl fld28_2 ?_
      refine L_store rfl rfl (by first | (with_reducible repeat (first | exact Pick.here _ | apply Pick.there)); done | (repeat (first | exact Pick.here _ | apply Pick.there))) one26 rfl rfl ?_
      refine L_nil ?_
      refine W_seq ?_
      refine W_region ?_
      refine L_loadW rfl rfl (RdC.blk (by first | (with_reducible repeat (first | exact List.Mem.head _ | apply List.Mem.tail)); done | (repeat (first | exact List.Mem.head _ | apply List.Mem.tail)))) (by exact agg28) ?_
      refine L_move rfl rfl ?_
      refine L_storeW rfl rfl (by first | (with_reducible repeat (first | exact Pick.here _ | apply Pick.there)); done | (repeat (first | exact Pick.here _ | apply Pick.there))) (by exact agg28) (by rfl) (by first | exact allOne rfl | exact fun v hv => GT.one _ v hv | (simp [Value.oneCell', TL.hdr, Value.cells]; done)) ?_
      refine L_assign rfl rfl ?_
      refine L_assign rfl rfl ?_
      refine L_nil ?_
      obtain rfl := Option.some.inj hp
      refine W_conv (M' := treeH ((y3x0_2, y8x0) : Int × TL T_Sess) :: _) (fun w h => jnR (a := y3x0_2) (b := y8x0) (by first | (with_reducible repeat (first | exact Pick.here _ | apply Pick.there)); done | (repeat (first | exact Pick.here _ | apply Pick.there))) h) ?_
      refine W_conv (M' := treeH ((y3x0_1, (y3x0_2, y8x0)) : Int × Int × TL T_Sess) :: _) (fun w h => jnR (a := y3x0_1) (b := (y3x0_2, y8x0)) (by first | (with_reducible repeat (first | exact Pick.here _ | apply Pick.there)); done | (repeat (first | exact Pick.here _ | apply Pick.there))) h) ?_
      refine W_ret ?_
      refine res3 rfl (ResOK.cell rfl (by first | (with_reducible repeat (first | exact List.Mem.head _ | apply List.Mem.tail)); done | (repeat (first | exact List.Mem.head _ | apply List.Mem.tail))) (by exact agg28)) (ResOK.tmp rfl) (ResOK.tmp rfl) ⟨(y3x0_1, y3x0_2, y8x0), y7, true, rfl, rfl, rfl⟩ (MSub.cons (by first | (with_reducible repeat (first | exact Pick.here _ | apply Pick.there)); done | (repeat (first | exact Pick.here _ | apply Pick.there))) (MSub.nil _))

end Go.Proofs.SL
