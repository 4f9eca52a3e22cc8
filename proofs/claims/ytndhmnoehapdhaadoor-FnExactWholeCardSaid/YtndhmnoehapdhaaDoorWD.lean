/- Walks of functions, each with the function on data that it follows. -/
import Derived.Test.YtndhmnoehapdhaaDoorWC
namespace Go.Proofs.SL
open Go
theorem fn25 : IsFn Tryd.prog 25 := ⟨_, Tryd.func25, by kernel_rfl, rfl⟩
theorem fn72 : IsFn Tryd.prog 72 := ⟨_, Tryd.func72, by kernel_rfl, rfl⟩
theorem fn73 : IsFn Tryd.prog 73 := ⟨_, Tryd.func73, by kernel_rfl, rfl⟩
theorem fn75 : IsFn Tryd.prog 75 := ⟨_, Tryd.func75, by kernel_rfl, rfl⟩
theorem fn113 : IsFn Tryd.prog 113 := ⟨_, Tryd.func113, by kernel_rfl, rfl⟩
theorem fn112 : IsFn Tryd.prog 112 := ⟨_, Tryd.func112, by kernel_rfl, rfl⟩
theorem fn77 : IsFn Tryd.prog 77 := ⟨_, Tryd.func77, by kernel_rfl, rfl⟩
theorem fn78 : IsFn Tryd.prog 78 := ⟨_, Tryd.func78, by kernel_rfl, rfl⟩
theorem fn27 : IsFn Tryd.prog 27 := ⟨_, Tryd.func27, by kernel_rfl, rfl⟩
theorem fn34 : IsFn Tryd.prog 34 := ⟨_, Tryd.func34, by kernel_rfl, rfl⟩
noncomputable def s_l15At (a0 : D_Catalog) (a1 : ByteArray) : Option Int :=
  whileP (fun s1 : Int => cond (decide (s1 < (a0.length : Int))) (Option.bind (idx a0 s1) (fun y3 => cond (decide (y3.1 = a1)) (Option.map .inr (some s1)) (some (.inl (IntKind.wrap .i64 (s1 + 1)))))) (Option.map .inr (some (-1)))) 0

theorem s_l15At_walk (w : World) (a0 : T_Catalog) (a1 : ByteArray) (h0 : GT.rd w [] a0) (r : Int) (hp : s_l15At (GT.dat a0) a1 = some r) : Spec Tryd.prog 72 [.agg (GT.cells a0).toArray, .string a1].toArray w [] (IsV (.int .i64 r)) := by
  change Spec _ _ ([Value.agg #[(TL.hdr a0)], .string a1] : List Value).toArray w [] _
  refine Spec.intro Tryd.func72 rfl Tryd.ntmps72 rfl ?_
  unfold s_l15At at hp
  try dsimp only [dat_pair, dat_int, dat_bool, dat_str, dat_ar] at hp
  refine W_seq ?_
  refine W_region ?_
  refine L_box rfl rfl (fun bk2 => ?_)
  refine L_assign rfl rfl ?_
  refine L_nil ?_
  refine W_seq ?_
  refine W_seq ?_
  refine W_region ?_
  refine L_assign rfl rfl ?_
  refine L_nil ?_
  refine W_block ?_
  refine W_while (σ := Int) GT.dat (fun (v1_0 : Int) => [(5, .int .i64 v1_0)]) (fun (v1_0 : Int) => []) [(1, _), (2, _)] [blk bk2 _ _] 0 hp (Sub.cons rfl (Sub.cons rfl (Sub.cons rfl (Sub.nil _)))) (MSub.cons (by first | (with_reducible repeat (first | exact Pick.here _ | apply Pick.there)); done | (repeat (first | exact Pick.here _ | apply Pick.there))) (MSub.nil _)) ?_
  clear hp
  rintro v1_0 x1 hp hx1
  try dsimp only [dat_pair, dat_int, dat_bool, dat_str, dat_ar] at hp
  refine W_weaken (l' := [(1, _), (2, _), (5, _)]) (Sub.cons rfl (Sub.cons rfl (Sub.cons rfl (Sub.nil _)))) (M' := [_]) (MSub.cons (by first | (with_reducible repeat (first | exact Pick.here _ | apply Pick.there)); done | (repeat (first | exact Pick.here _ | apply Pick.there))) (MSub.nil _)) ?_
  refine W_seq ?_
  refine W_seq ?_
  refine W_region ?_
  refine L_move rfl rfl ?_
  refine L_fieldAddr rfl rfl fld53_0 ?_
  refine L_load rfl rfl (RdC.blk (by first | (with_reducible repeat (first | exact List.Mem.head _ | apply List.Mem.tail)); done | (repeat (first | exact List.Mem.head _ | apply List.Mem.tail)))) one51 rfl ?_
  refine L_lenP (X := a0) rfl rfl el51 ?_
  refine L_binV rfl rfl rfl bv_lss ?_
  refine L_nil ?_
  refine W_weaken (l' := [(1, _), (2, _), (5, _), (10, _)]) (Sub.cons rfl (Sub.cons rfl (Sub.cons rfl (Sub.cons rfl (Sub.nil _))))) (MSub.refl _) ?_
  refine W_cond rfl (fun hc2 => ?_) (fun hc2 => ?_)
  · skip
    replace hp := cond_t hc2 hp
    refine W_skip ?_
    refine W_seq ?_
    refine W_block ?_
    refine W_seq ?_
    refine W_region ?_
    refine L_fieldAddr rfl rfl fld53_0 ?_
    refine L_load rfl rfl (RdC.blk (by first | (with_reducible repeat (first | exact List.Mem.head _ | apply List.Mem.tail)); done | (repeat (first | exact List.Mem.head _ | apply List.Mem.tail)))) one51 rfl ?_
    refine L_move rfl rfl ?_
    have ho := hp; clear hp; obtain ⟨u3, hy3, hp⟩ := idx_bind ho; clear ho
    obtain ⟨u3_1, u3_2⟩ := u3
    refine L_idxA (X := a0) rfl rfl rfl el51 (RdT.old h0) hy3 ?_
    refine L_fieldAddr rfl rfl fld72_0 ?_
    refine L_load rfl rfl (RdT.at (RdT.old h0) (hy3).2) one9 rfl ?_
    refine L_move rfl rfl ?_
    refine L_binV rfl rfl rfl bv_seql ?_
    refine L_nil ?_
    refine W_weaken (l' := [(1, _), (2, _), (5, _), (20, _)]) (Sub.cons rfl (Sub.cons rfl (Sub.cons rfl (Sub.cons rfl (Sub.nil _))))) (MSub.refl _) ?_
    refine W_cond rfl (fun hc4 => ?_) (fun hc4 => ?_)
    · skip
      replace hp := cond_t hc4 hp
      refine W_seq ?_
      refine W_region ?_
      refine L_move rfl rfl ?_
      refine L_assign rfl rfl ?_
      refine L_nil ?_
      have ho := hp; clear hp; obtain ⟨a5, hp, hx_a5⟩ := map_any ho; clear ho
      obtain rfl := hx1 _ hx_a5
      obtain rfl := Option.some.inj hp
      refine W_ret ?_
      refine res1 rfl (ResOK.tmp rfl) ⟨rfl, rfl⟩ (MSub.nil _)
    · skip
      replace hp := cond_f hc4 hp
      refine W_skip ?_
      refine W_region ?_
      refine L_move rfl rfl ?_
      refine L_binV rfl rfl rfl bv_add ?_
      refine L_assign rfl rfl ?_
      refine L_nil ?_
      exact ⟨IntKind.wrap .i64 (v1_0 + 1), (Sub.cons rfl (Sub.cons rfl (Sub.cons rfl (Sub.nil _)))), (Arr.sub (MSub.cons (by first | (with_reducible repeat (first | exact Pick.here _ | apply Pick.there)); done | (repeat (first | exact Pick.here _ | apply Pick.there))) (MSub.nil _))), some_eq hp⟩
  · skip
    replace hp := cond_f hc2 hp
    refine W_exit ?_
    have ho := hp; clear hp; obtain ⟨a6, hp, hx_a6⟩ := map_any ho; clear ho
    obtain rfl := hx1 _ hx_a6
    refine W_seq ?_
    refine W_region ?_
    refine L_assign rfl rfl ?_
    refine L_nil ?_
    obtain rfl := Option.some.inj hp
    refine W_ret ?_
    refine res1 rfl (ResOK.tmp rfl) ⟨rfl, rfl⟩ (MSub.nil _)

noncomputable def s_l21All (a0 : List D_Blobs) (a1 : List ByteArray) : Option (ByteArray × Int) :=
  whileP (fun s1 : ByteArray × Int => cond (decide (s1.2 < (a1.length : Int))) (Option.bind (idx a1 s1.2) (fun y3 => Option.bind (s_Fetch a0 y3) (fun y4 => cond (!decide (y4.2 = 0)) (Option.map .inr (some (ByteArray.empty, y4.2))) (Option.bind (catP s1.1 y4.1) (fun y7 => some (.inl ((y7, IntKind.wrap .i64 (s1.2 + 1))))))))) (Option.map .inr (some (s1.1, 0)))) (ByteArray.empty, 0)

theorem s_l21All_walk (w : World) (a0 : TL T_Blobs) (a1 : TL ByteArray) (h0 : GT.rd w [] a0) (h1 : GT.rd w [] a1) (r : ByteArray × Int) (hp : s_l21All (GT.dat a0) (GT.dat a1) = some r) : Spec Tryd.prog 75 [(TL.hdr a0), (TL.hdr a1)].toArray w [] (fun v M => ∃ (x0 : ByteArray) (x1 : Int), v = .tuple #[.string x0, .int .i64 x1] ∧ (GT.dat x0, GT.dat x1) = r ∧ M = []) := by
  refine Spec.intro Tryd.func75 rfl Tryd.ntmps75 rfl ?_
  unfold s_l21All at hp
  try dsimp only [dat_pair, dat_int, dat_bool, dat_str, dat_ar] at hp
  refine W_seq ?_
  refine W_region ?_
  refine L_assign rfl rfl ?_
  refine L_assign rfl rfl ?_
  refine L_nil ?_
  refine W_seq ?_
  refine W_region ?_
  refine L_assign rfl rfl ?_
  refine L_nil ?_
  refine W_seq ?_
  refine W_seq ?_
  refine W_region ?_
  refine L_assign rfl rfl ?_
  refine L_nil ?_
  refine W_block ?_
  refine W_while (σ := ByteArray × Int) GT.dat (fun ((v1_0, v1_1) : ByteArray × Int) => [(6, .string v1_0), (7, .int .i64 v1_1)]) (fun ((v1_0, v1_1) : ByteArray × Int) => []) [(0, _), (1, _)] [] (ByteArray.empty, 0) hp (Sub.cons rfl (Sub.cons rfl (Sub.cons rfl (Sub.cons rfl (Sub.nil _))))) (MSub.nil _) ?_
  clear hp
  rintro ⟨v1_0, v1_1⟩ x1 hp hx1
  try dsimp only [dat_pair, dat_int, dat_bool, dat_str, dat_ar] at hp
  refine W_weaken (l' := [(0, _), (1, _), (6, _), (7, _)]) (Sub.cons rfl (Sub.cons rfl (Sub.cons rfl (Sub.cons rfl (Sub.nil _))))) (M' := []) (MSub.nil _) ?_
  refine W_seq ?_
  refine W_seq ?_
  refine W_region ?_
  refine L_move rfl rfl ?_
  refine L_move rfl rfl ?_
  refine L_lenP (X := a1) rfl rfl el73 ?_
  refine L_binV rfl rfl rfl bv_lss ?_
  refine L_nil ?_
  refine W_weaken (l' := [(0, _), (1, _), (6, _), (7, _), (13, _)]) (Sub.cons rfl (Sub.cons rfl (Sub.cons rfl (Sub.cons rfl (Sub.cons rfl (Sub.nil _)))))) (MSub.refl _) ?_
  refine W_cond rfl (fun hc2 => ?_) (fun hc2 => ?_)
  · skip
    replace hp := cond_t hc2 hp
    refine W_skip ?_
    refine W_seq ?_
    refine W_block ?_
    refine W_seq ?_
    refine W_region ?_
    refine L_move rfl rfl ?_
    refine L_move rfl rfl ?_
    refine L_move rfl rfl ?_
    have ho := hp; clear hp; obtain ⟨u3, hy3, hp⟩ := idx_bind ho; clear ho
    refine L_idxA (X := a1) rfl rfl rfl el73 (RdT.old h1) hy3 ?_
    refine L_load0 rfl rfl (RdT.at (RdT.old h1) (hy3).2) one9 rfl ?_
    have ho := hp; clear hp; obtain ⟨y4, hy4, hp⟩ := bind_any ho; clear ho
    refine L_callR rfl fn25 rfl (by exact fun w hw => s_Fetch_walk w a0 u3 (RdT.now (RdT.old h0) hw) _ hy4) ?_
    rintro vy4 My4 ⟨y4x0, y4x1, hvy4, hdy4, rfl⟩
    subst hvy4
    subst hdy4
    simp only [cells_pair, cells_int, cells_bool, cells_str, cells_TL, List.cons_append, List.nil_append]
    try dsimp only [dat_pair, dat_int, dat_bool, dat_str, dat_ar] at hp
    refine L_move rfl rfl ?_
    refine L_extract rfl rfl rfl ?_
    refine L_extract rfl rfl rfl ?_
    refine L_assign rfl rfl ?_
    refine L_assign rfl rfl ?_
    refine L_nil ?_
    refine W_seq ?_
    refine W_seq ?_
    refine W_region ?_
    refine L_move rfl rfl ?_
    refine L_binV rfl rfl rfl bv_neq ?_
    refine L_nil ?_
    refine W_weaken (l' := [(0, _), (1, _), (6, _), (7, _), (8, _), (9, _), (26, _)]) (Sub.cons rfl (Sub.cons rfl (Sub.cons rfl (Sub.cons rfl (Sub.cons rfl (Sub.cons rfl (Sub.cons rfl (Sub.nil _)))))))) (MSub.refl _) ?_
    refine W_cond rfl (fun hc5 => ?_) (fun hc5 => ?_)
    · skip
      replace hp := cond_t hc5 hp
      refine W_seq ?_
      refine W_region ?_
      refine L_move rfl rfl ?_
      refine L_assign rfl rfl ?_
      refine L_assign rfl rfl ?_
      refine L_nil ?_
      have ho := hp; clear hp; obtain ⟨a6, hp, hx_a6⟩ := map_any ho; clear ho
      obtain rfl := hx1 _ hx_a6
      obtain rfl := Option.some.inj hp
      refine W_ret ?_
      refine res2 rfl (ResOK.tmp rfl) (ResOK.tmp rfl) ⟨ByteArray.empty, y4x1, rfl, rfl, rfl⟩ (MSub.nil _)
    · skip
      replace hp := cond_f hc5 hp
      refine W_skip ?_
      refine W_region ?_
      refine L_move rfl rfl ?_
      refine L_move rfl rfl ?_
      have ho := hp; clear hp; obtain ⟨y7, hy7, hp⟩ := bind_any ho; clear ho
      refine L_binV rfl rfl rfl (bv_saddP hy7) ?_
      refine L_assign rfl rfl ?_
      refine L_nil ?_
      refine W_region ?_
      refine L_move rfl rfl ?_
      refine L_binV rfl rfl rfl bv_add ?_
      refine L_assign rfl rfl ?_
      refine L_nil ?_
      exact ⟨(y7, IntKind.wrap .i64 (v1_1 + 1)), (Sub.cons rfl (Sub.cons rfl (Sub.cons rfl (Sub.cons rfl (Sub.nil _))))), (Arr.sub (MSub.nil _)), some_eq hp⟩
  · skip
    replace hp := cond_f hc2 hp
    refine W_exit ?_
    have ho := hp; clear hp; obtain ⟨a8, hp, hx_a8⟩ := map_any ho; clear ho
    obtain rfl := hx1 _ hx_a8
    refine W_seq ?_
    refine W_region ?_
    refine L_move rfl rfl ?_
    refine L_assign rfl rfl ?_
    refine L_assign rfl rfl ?_
    refine L_nil ?_
    obtain rfl := Option.some.inj hp
    refine W_ret ?_
    refine res2 rfl (ResOK.tmp rfl) (ResOK.tmp rfl) ⟨v1_0, 0, rfl, rfl, rfl⟩ (MSub.nil _)

noncomputable def s_Restore (a0 : D_Catalog) (a1 : List D_Blobs) (a2 : ByteArray) (a3 : ByteArray) : Option (ByteArray × Int) :=
  Option.bind (s_l15At a0 a2) (fun y1 => Option.bind (s_CatOk a0) (fun y2 => cond ((!y2) || (decide (y1 < 0))) (some (ByteArray.empty, 1)) (Option.bind (idx a0 y1) (fun y4 => Option.bind (s_l15Find (y4.1, y4.2) a3) (fun y5 => cond (decide (y5 < 0)) (some (ByteArray.empty, 1)) (Option.bind (idx a0 y1) (fun y7 => Option.bind (idx y7.2 y5) (fun y8 => Option.bind (s_l21All a1 y8.2.2) (fun y9 => some (y9.1, y9.2))))))))))

theorem s_Restore_walk (w : World) (a0 : T_Catalog) (a1 : TL T_Blobs) (a2 : ByteArray) (a3 : ByteArray) (h0 : GT.rd w [] a0) (h1 : GT.rd w [] a1) (r : ByteArray × Int) (hp : s_Restore (GT.dat a0) (GT.dat a1) a2 a3 = some r) : Spec Tryd.prog 32 [.agg (GT.cells a0).toArray, (TL.hdr a1), .string a2, .string a3].toArray w [] (fun v M => ∃ (x0 : ByteArray) (x1 : Int), v = .tuple #[.string x0, .int .i64 x1] ∧ (GT.dat x0, GT.dat x1) = r ∧ M = []) := by
  change Spec _ _ ([Value.agg #[(TL.hdr a0)], (TL.hdr a1), .string a2, .string a3] : List Value).toArray w [] _
  refine Spec.intro Tryd.func32 rfl Tryd.ntmps32 rfl ?_
  unfold s_Restore at hp
  try dsimp only [dat_pair, dat_int, dat_bool, dat_str, dat_ar] at hp
  refine W_seq ?_
  refine W_region ?_
  refine L_box rfl rfl (fun bk4 => ?_)
  refine L_assign rfl rfl ?_
  refine L_assign rfl rfl ?_
  refine L_nil ?_
  refine W_seq ?_
  refine W_region ?_
  refine L_loadW rfl rfl (RdC.blk (by first | (with_reducible repeat (first | exact List.Mem.head _ | apply List.Mem.tail)); done | (repeat (first | exact List.Mem.head _ | apply List.Mem.tail)))) (by exact agg53) ?_
  refine L_move rfl rfl ?_
  have ho := hp; clear hp; obtain ⟨y1, hy1, hp⟩ := bind_any ho; clear ho
  refine L_callX rfl fn72 rfl (by exact fun w hw => s_l15At_walk w a0 a2 (RdT.now (RdT.old h0) hw) _ hy1) ?_
  refine L_assign rfl rfl ?_
  refine L_nil ?_
  refine W_seq ?_
  refine W_seq ?_
  have ho := hp; clear hp; obtain ⟨y2, hy2, hp⟩ := bind_any ho; clear ho
  refine W_D0 [23] mix (by kernel_rfl) rfl ?_
  refine D_loadW GC.none (OpV.t rfl) (fun hg => RdC.blk (by first | (with_reducible repeat (first | exact List.Mem.head _ | apply List.Mem.tail)); done | (repeat (first | exact List.Mem.head _ | apply List.Mem.tail)))) (by exact agg53) ?_
  refine D_callX GC.none fn73 (OpVs.cons (OpV.t rfl) (OpVs.nil)) (by exact fun hg w F hF hM => s_CatOk_walk w a0 (RdT.nowS (RdT.old h0) hF hM) _ hy2) ?_
  refine D_not GC.none (OpV.t rfl) ?_
  refine D_move GC.none (OpV.t rfl) ?_
  refine D_move (GC.some rfl rfl) (OpV.t rfl) ?_
  refine D_bin (GC.some rfl rfl) (OpV.s rfl) OpV.c (fun hg => bv_lss) ?_
  refine D_or (cy := _) GC.none (OpV.t rfl) (OpV.s rfl) (fun h hb => ⟨h, hb⟩) ?_
  refine DV_nil ?_
  refine Give_is rfl rfl ?_
  refine Give_drop rfl ?_
  refine Give_drop rfl ?_
  refine Give_drop rfl ?_
  refine Give_drop rfl ?_
  refine Give_drop rfl ?_
  refine Give_drop rfl ?_
  refine Give_nil ?_
  refine W_weaken (l' := [(1, _), (3, _), (4, _), (10, _), (23, _)]) (Sub.cons rfl (Sub.cons rfl (Sub.cons rfl (Sub.cons rfl (Sub.cons rfl (Sub.nil _)))))) (MSub.refl _) ?_
  refine W_cond rfl (fun hc3 => ?_) (fun hc3 => ?_)
  · skip
    replace hp := cond_t hc3 hp
    refine W_seq ?_
    refine W_region ?_
    refine L_assign rfl rfl ?_
    refine L_assign rfl rfl ?_
    refine L_nil ?_
    obtain rfl := Option.some.inj hp
    refine W_ret ?_
    refine res2 rfl (ResOK.tmp rfl) (ResOK.tmp rfl) ⟨ByteArray.empty, 1, rfl, rfl, rfl⟩ (MSub.nil _)
  · skip
    replace hp := cond_f hc3 hp
    refine W_skip ?_
    refine W_seq ?_
    refine W_region ?_
    refine L_fieldAddr rfl rfl fld53_0 ?_
    refine L_load rfl rfl (RdC.blk (by first | (with_reducible repeat (first | exact List.Mem.head _ | apply List.Mem.tail)); done | (repeat (first | exact List.Mem.head _ | apply List.Mem.tail)))) one51 rfl ?_
    refine L_move rfl rfl ?_
    have ho := hp; clear hp; obtain ⟨u4, hy4, hp⟩ := idx_bind ho; clear ho
    obtain ⟨u4_1, u4_2⟩ := u4
    refine L_idxA (X := a0) rfl rfl rfl el51 (RdT.old h0) hy4 ?_
    refine L_loadW rfl rfl (RdT.at (RdT.old h0) (hy4).2) (by exact agg72) ?_
    refine L_move rfl rfl ?_
    have ho := hp; clear hp; obtain ⟨y5, hy5, hp⟩ := bind_any ho; clear ho
    refine L_callX rfl fn74 rfl (by exact fun w hw => s_l15Find_walk w (u4_1, u4_2) a3 (RdT.now (RdT.pair RdT.str (RdT.snd (RdT.of (RdT.old h0) (hy4).2))) hw) _ hy5) ?_
    refine L_assign rfl rfl ?_
    refine L_nil ?_
    refine W_seq ?_
    refine W_seq ?_
    refine W_region ?_
    refine L_move rfl rfl ?_
    refine L_binV rfl rfl rfl bv_lss ?_
    refine L_nil ?_
    refine W_weaken (l' := [(1, _), (4, _), (10, _), (11, _), (32, _)]) (Sub.cons rfl (Sub.cons rfl (Sub.cons rfl (Sub.cons rfl (Sub.cons rfl (Sub.nil _)))))) (MSub.refl _) ?_
    refine W_cond rfl (fun hc6 => ?_) (fun hc6 => ?_)
    · skip
      replace hp := cond_t hc6 hp
      refine W_seq ?_
      refine W_region ?_
      refine L_assign rfl rfl ?_
      refine L_assign rfl rfl ?_
      refine L_nil ?_
      obtain rfl := Option.some.inj hp
      refine W_ret ?_
      refine res2 rfl (ResOK.tmp rfl) (ResOK.tmp rfl) ⟨ByteArray.empty, 1, rfl, rfl, rfl⟩ (MSub.nil _)
    · skip
      replace hp := cond_f hc6 hp
      refine W_skip ?_
      refine W_seq ?_
      refine W_region ?_
      refine L_move rfl rfl ?_
      refine L_fieldAddr rfl rfl fld53_0 ?_
      refine L_load rfl rfl (RdC.blk (by first | (with_reducible repeat (first | exact List.Mem.head _ | apply List.Mem.tail)); done | (repeat (first | exact List.Mem.head _ | apply List.Mem.tail)))) one51 rfl ?_
      refine L_move rfl rfl ?_
      have ho := hp; clear hp; obtain ⟨u7, hy7, hp⟩ := idx_bind ho; clear ho
      obtain rfl : (u4_1, u4_2) = u7 := Option.some.inj (hy4.2.symm.trans hy7.2)
      refine L_idxA (X := a0) rfl rfl rfl el51 (RdT.old h0) hy4 ?_
      refine L_fieldAddr rfl rfl fld72_1 ?_
      refine L_load rfl rfl (RdT.at (RdT.old h0) (hy4).2) one70 rfl ?_
      refine L_move rfl rfl ?_
      have ho := hp; clear hp; obtain ⟨u8, hy8, hp⟩ := idx_bind ho; clear ho
      obtain ⟨u8_1, u8_2, u8_3⟩ := u8
      refine L_idxA (X := u4_2) rfl rfl rfl el70 (RdT.snd (RdT.of (RdT.old h0) (hy4).2)) hy8 ?_
      refine L_fieldAddr rfl rfl fld75_2 ?_
      refine L_load rfl rfl (RdT.at (RdT.snd (RdT.of (RdT.old h0) (hy4).2)) (hy8).2) one73 rfl ?_
      have ho := hp; clear hp; obtain ⟨y9, hy9, hp⟩ := bind_any ho; clear ho
      refine L_callR rfl fn75 rfl (by exact fun w hw => s_l21All_walk w a1 u8_3 (RdT.now (RdT.old h1) hw) (RdT.now (RdT.snd (RdT.snd (RdT.of (RdT.snd (RdT.of (RdT.old h0) (hy4).2)) (hy8).2))) hw) _ hy9) ?_
      rintro vy9 My9 ⟨y9x0, y9x1, hvy9, hdy9, rfl⟩
      subst hvy9
      subst hdy9
      simp only [cells_pair, cells_int, cells_bool, cells_str, cells_TL, List.cons_append, List.nil_append]
      try dsimp only [dat_pair, dat_int, dat_bool, dat_str, dat_ar] at hp
      refine L_move rfl rfl ?_
      refine L_extract rfl rfl rfl ?_
      refine L_extract rfl rfl rfl ?_
      refine L_assign rfl rfl ?_
      refine L_assign rfl rfl ?_
      refine L_nil ?_
      refine W_seq ?_
      refine W_region ?_
      refine L_move rfl rfl ?_
      refine L_move rfl rfl ?_
      refine L_assign rfl rfl ?_
      refine L_assign rfl rfl ?_
      refine L_nil ?_
      obtain rfl := Option.some.inj hp
      refine W_ret ?_
      refine res2 rfl (ResOK.tmp rfl) (ResOK.tmp rfl) ⟨y9x0, y9x1, rfl, rfl, rfl⟩ (MSub.nil _)

noncomputable def s_Whole (a0 : D_Catalog) (a1 : List D_Blobs) : Option Bool :=
  Option.bind (s_CatOk a0) (fun y1 => cond (!y1) (some false) (whileP (fun s3 : Int => cond (decide (s3 < (a0.length : Int))) (whileP (fun s5 : Int => Option.bind (idx a0 s3) (fun y6 => cond (decide (s5 < (y6.2.length : Int))) (Option.bind (idx a0 s3) (fun y8 => Option.bind (idx y8.2 s5) (fun y9 => Option.bind (s_l21All a1 y9.2.2) (fun y10 => cond (!decide (y10.2 = 0)) (Option.map .inr (Option.map .inr (some false))) (some (.inl (IntKind.wrap .i64 (s5 + 1)))))))) (Option.map .inr (some (.inl (IntKind.wrap .i64 (s3 + 1))))))) 0) (Option.map .inr (some true))) 0))

theorem s_Whole_walk (w : World) (a0 : T_Catalog) (a1 : TL T_Blobs) (h0 : GT.rd w [] a0) (h1 : GT.rd w [] a1) (r : Bool) (hp : s_Whole (GT.dat a0) (GT.dat a1) = some r) : Spec Tryd.prog 36 [.agg (GT.cells a0).toArray, (TL.hdr a1)].toArray w [] (IsV (.bool r)) := by
  change Spec _ _ ([Value.agg #[(TL.hdr a0)], (TL.hdr a1)] : List Value).toArray w [] _
  refine Spec.intro Tryd.func36 rfl Tryd.ntmps36 rfl ?_
  unfold s_Whole at hp
  try dsimp only [dat_pair, dat_int, dat_bool, dat_str, dat_ar] at hp
  refine W_seq ?_
  refine W_region ?_
  refine L_box rfl rfl (fun bk2 => ?_)
  refine L_assign rfl rfl ?_
  refine L_nil ?_
  refine W_seq ?_
  refine W_seq ?_
  refine W_region ?_
  refine L_loadW rfl rfl (RdC.blk (by first | (with_reducible repeat (first | exact List.Mem.head _ | apply List.Mem.tail)); done | (repeat (first | exact List.Mem.head _ | apply List.Mem.tail)))) (by exact agg53) ?_
  have ho := hp; clear hp; obtain ⟨y1, hy1, hp⟩ := bind_any ho; clear ho
  refine L_callX rfl fn73 rfl (by exact fun w hw => s_CatOk_walk w a0 (RdT.now (RdT.old h0) hw) _ hy1) ?_
  refine L_not rfl rfl ?_
  refine L_nil ?_
  refine W_weaken (l' := [(1, _), (2, _), (11, _)]) (Sub.cons rfl (Sub.cons rfl (Sub.cons rfl (Sub.nil _)))) (MSub.refl _) ?_
  refine W_cond rfl (fun hc2 => ?_) (fun hc2 => ?_)
  · skip
    replace hp := cond_t hc2 hp
    refine W_seq ?_
    refine W_region ?_
    refine L_assign rfl rfl ?_
    refine L_nil ?_
    obtain rfl := Option.some.inj hp
    refine W_ret ?_
    refine res1 rfl (ResOK.tmp rfl) ⟨rfl, rfl⟩ (MSub.nil _)
  · skip
    replace hp := cond_f hc2 hp
    refine W_skip ?_
    refine W_seq ?_
    refine W_seq ?_
    refine W_region ?_
    refine L_assign rfl rfl ?_
    refine L_nil ?_
    refine W_block ?_
    refine W_while (σ := Int) GT.dat (fun (v3_0 : Int) => [(5, .int .i64 v3_0)]) (fun (v3_0 : Int) => []) [(1, _), (2, _)] [blk bk2 _ _] 0 hp (Sub.cons rfl (Sub.cons rfl (Sub.cons rfl (Sub.nil _)))) (MSub.cons (by first | (with_reducible repeat (first | exact Pick.here _ | apply Pick.there)); done | (repeat (first | exact Pick.here _ | apply Pick.there))) (MSub.nil _)) ?_
    clear hp
    rintro v3_0 x3 hp hx3
    try dsimp only [dat_pair, dat_int, dat_bool, dat_str, dat_ar] at hp
    refine W_weaken (l' := [(1, _), (2, _), (5, _)]) (Sub.cons rfl (Sub.cons rfl (Sub.cons rfl (Sub.nil _)))) (M' := [_]) (MSub.cons (by first | (with_reducible repeat (first | exact Pick.here _ | apply Pick.there)); done | (repeat (first | exact Pick.here _ | apply Pick.there))) (MSub.nil _)) ?_
    refine W_seq ?_
    refine W_seq ?_
    refine W_region ?_
    refine L_move rfl rfl ?_
    refine L_fieldAddr rfl rfl fld53_0 ?_
    refine L_load rfl rfl (RdC.blk (by first | (with_reducible repeat (first | exact List.Mem.head _ | apply List.Mem.tail)); done | (repeat (first | exact List.Mem.head _ | apply List.Mem.tail)))) one51 rfl ?_
    refine L_lenP (X := a0) rfl rfl el51 ?_
    refine L_binV rfl rfl rfl bv_lss ?_
    refine L_nil ?_
    refine W_weaken (l' := [(1, _), (2, _), (5, _), (16, _)]) (Sub.cons rfl (Sub.cons rfl (Sub.cons rfl (Sub.cons rfl (Sub.nil _))))) (MSub.refl _) ?_
    refine W_cond rfl (fun hc4 => ?_) (fun hc4 => ?_)
    · skip
      replace hp := cond_t hc4 hp
      refine W_skip ?_
      refine W_seq ?_
      refine W_block ?_
      refine W_seq ?_
      refine W_region ?_
      refine L_assign rfl rfl ?_
      refine L_nil ?_
      refine W_block ?_
      refine W_while (σ := Int) GT.dat (fun (v5_0 : Int) => [(6, .int .i64 v5_0)]) (fun (v5_0 : Int) => []) [(1, _), (2, _), (5, _)] [blk bk2 _ _] 0 hp (Sub.cons rfl (Sub.cons rfl (Sub.cons rfl (Sub.cons rfl (Sub.nil _))))) (MSub.cons (by first | (with_reducible repeat (first | exact Pick.here _ | apply Pick.there)); done | (repeat (first | exact Pick.here _ | apply Pick.there))) (MSub.nil _)) ?_
      clear hp
      rintro v5_0 x5 hp hx5
      try dsimp only [dat_pair, dat_int, dat_bool, dat_str, dat_ar] at hp
      refine W_weaken (l' := [(1, _), (2, _), (5, _), (6, _)]) (Sub.cons rfl (Sub.cons rfl (Sub.cons rfl (Sub.cons rfl (Sub.nil _))))) (M' := [_]) (MSub.cons (by first | (with_reducible repeat (first | exact Pick.here _ | apply Pick.there)); done | (repeat (first | exact Pick.here _ | apply Pick.there))) (MSub.nil _)) ?_
      refine W_seq ?_
      refine W_seq ?_
      refine W_region ?_
      refine L_move rfl rfl ?_
      refine L_fieldAddr rfl rfl fld53_0 ?_
      refine L_load rfl rfl (RdC.blk (by first | (with_reducible repeat (first | exact List.Mem.head _ | apply List.Mem.tail)); done | (repeat (first | exact List.Mem.head _ | apply List.Mem.tail)))) one51 rfl ?_
      refine L_move rfl rfl ?_
      have ho := hp; clear hp; obtain ⟨u6, hy6, hp⟩ := idx_bind ho; clear ho
      obtain ⟨u6_1, u6_2⟩ := u6
      refine L_idxA (X := a0) rfl rfl rfl el51 (RdT.old h0) hy6 ?_
      refine L_fieldAddr rfl rfl fld72_1 ?_
      refine L_load rfl rfl (RdT.at (RdT.old h0) (hy6).2) one70 rfl ?_
      refine L_lenP (X := u6_2) rfl rfl el70 ?_
      refine L_binV rfl rfl rfl bv_lss ?_
      refine L_nil ?_
      refine W_weaken (l' := [(1, _), (2, _), (5, _), (6, _), (27, _)]) (Sub.cons rfl (Sub.cons rfl (Sub.cons rfl (Sub.cons rfl (Sub.cons rfl (Sub.nil _)))))) (MSub.refl _) ?_
      refine W_cond rfl (fun hc7 => ?_) (fun hc7 => ?_)
      · skip
        replace hp := cond_t hc7 hp
        refine W_skip ?_
        refine W_seq ?_
        refine W_block ?_
        refine W_seq ?_
        refine W_region ?_
        refine L_move rfl rfl ?_
        refine L_fieldAddr rfl rfl fld53_0 ?_
        refine L_load rfl rfl (RdC.blk (by first | (with_reducible repeat (first | exact List.Mem.head _ | apply List.Mem.tail)); done | (repeat (first | exact List.Mem.head _ | apply List.Mem.tail)))) one51 rfl ?_
        refine L_move rfl rfl ?_
        have ho := hp; clear hp; obtain ⟨u8, hy8, hp⟩ := idx_bind ho; clear ho
        obtain rfl : (u6_1, u6_2) = u8 := Option.some.inj (hy6.2.symm.trans hy8.2)
        refine L_idxA (X := a0) rfl rfl rfl el51 (RdT.old h0) hy6 ?_
        refine L_fieldAddr rfl rfl fld72_1 ?_
        refine L_load rfl rfl (RdT.at (RdT.old h0) (hy6).2) one70 rfl ?_
        refine L_move rfl rfl ?_
        have ho := hp; clear hp; obtain ⟨u9, hy9, hp⟩ := idx_bind ho; clear ho
        obtain ⟨u9_1, u9_2, u9_3⟩ := u9
        refine L_idxA (X := u6_2) rfl rfl rfl el70 (RdT.snd (RdT.of (RdT.old h0) (hy6).2)) hy9 ?_
        refine L_fieldAddr rfl rfl fld75_2 ?_
        refine L_load rfl rfl (RdT.at (RdT.snd (RdT.of (RdT.old h0) (hy6).2)) (hy9).2) one73 rfl ?_
        have ho := hp; clear hp; obtain ⟨y10, hy10, hp⟩ := bind_any ho; clear ho
        refine L_callR rfl fn75 rfl (by exact fun w hw => s_l21All_walk w a1 u9_3 (RdT.now (RdT.old h1) hw) (RdT.now (RdT.snd (RdT.snd (RdT.of (RdT.snd (RdT.of (RdT.old h0) (hy6).2)) (hy9).2))) hw) _ hy10) ?_
        rintro vy10 My10 ⟨y10x0, y10x1, hvy10, hdy10, rfl⟩
        subst hvy10
        subst hdy10
        simp only [cells_pair, cells_int, cells_bool, cells_str, cells_TL, List.cons_append, List.nil_append]
        try dsimp only [dat_pair, dat_int, dat_bool, dat_str, dat_ar] at hp
        refine L_move rfl rfl ?_
        refine L_extract rfl rfl rfl ?_
        refine L_extract rfl rfl rfl ?_
        refine L_assign rfl rfl ?_
        refine L_assign rfl rfl ?_
        refine L_nil ?_
        refine W_seq ?_
        refine W_region ?_
        refine L_move rfl rfl ?_
        refine L_binV rfl rfl rfl bv_neq ?_
        refine L_nil ?_
        refine W_weaken (l' := [(1, _), (2, _), (5, _), (6, _), (46, _)]) (Sub.cons rfl (Sub.cons rfl (Sub.cons rfl (Sub.cons rfl (Sub.cons rfl (Sub.nil _)))))) (MSub.refl _) ?_
        refine W_cond rfl (fun hc11 => ?_) (fun hc11 => ?_)
        · skip
          replace hp := cond_t hc11 hp
          refine W_seq ?_
          refine W_region ?_
          refine L_assign rfl rfl ?_
          refine L_nil ?_
          have ho := hp; clear hp; obtain ⟨a12, hp, hx_a12⟩ := map_any ho; clear ho
          obtain rfl := hx5 _ hx_a12
          have ho := hp; clear hp; obtain ⟨a13, hp, hx_a13⟩ := map_any ho; clear ho
          obtain rfl := hx3 _ hx_a13
          obtain rfl := Option.some.inj hp
          refine W_ret ?_
          refine res1 rfl (ResOK.tmp rfl) ⟨rfl, rfl⟩ (MSub.nil _)
        · skip
          replace hp := cond_f hc11 hp
          refine W_skip ?_
          refine W_region ?_
          refine L_move rfl rfl ?_
          refine L_binV rfl rfl rfl bv_add ?_
          refine L_assign rfl rfl ?_
          refine L_nil ?_
          exact ⟨IntKind.wrap .i64 (v5_0 + 1), (Sub.cons rfl (Sub.cons rfl (Sub.cons rfl (Sub.cons rfl (Sub.nil _))))), (Arr.sub (MSub.cons (by first | (with_reducible repeat (first | exact Pick.here _ | apply Pick.there)); done | (repeat (first | exact Pick.here _ | apply Pick.there))) (MSub.nil _))), some_eq hp⟩
      · skip
        replace hp := cond_f hc7 hp
        refine W_exit ?_
        have ho := hp; clear hp; obtain ⟨a14, hp, hx_a14⟩ := map_any ho; clear ho
        obtain rfl := hx5 _ hx_a14
        refine W_region ?_
        refine L_move rfl rfl ?_
        refine L_binV rfl rfl rfl bv_add ?_
        refine L_assign rfl rfl ?_
        refine L_nil ?_
        exact ⟨IntKind.wrap .i64 (v3_0 + 1), (Sub.cons rfl (Sub.cons rfl (Sub.cons rfl (Sub.nil _)))), (Arr.sub (MSub.cons (by first | (with_reducible repeat (first | exact Pick.here _ | apply Pick.there)); done | (repeat (first | exact Pick.here _ | apply Pick.there))) (MSub.nil _))), some_eq hp⟩
    · skip
      replace hp := cond_f hc4 hp
      refine W_exit ?_
      have ho := hp; clear hp; obtain ⟨a15, hp, hx_a15⟩ := map_any ho; clear ho
      obtain rfl := hx3 _ hx_a15
      refine W_seq ?_
      refine W_region ?_
      refine L_assign rfl rfl ?_
      refine L_nil ?_
      obtain rfl := Option.some.inj hp
      refine W_ret ?_
      refine res1 rfl (ResOK.tmp rfl) ⟨rfl, rfl⟩ (MSub.nil _)

noncomputable def i_Catalog_set_c1 (a0 : D_CSet) (c0 : ByteArray) : Option Bool :=
  some (decide (a0.1 = c0))

theorem i_Catalog_set_c1_walk (w : World) (a0 : T_CSet) (b0 : Nat) (c0 : ByteArray) (h0 : GT.rd w [] a0) (hb0 : Cells w [] b0 0 (GT.cells c0)) (hc0 : GT.rd w [] c0) (r : Bool) (hp : i_Catalog_set_c1 (GT.dat a0) c0 = some r) : Spec Tryd.prog 113 ([(.agg (GT.cells a0).toArray : Value)] ++ [Value.pointer (some ⟨b0, 0, none⟩)]).toArray w [] (IsV (.bool r)) := by
  obtain ⟨a0_1, a0_2⟩ := a0
  change Spec _ _ ([Value.agg #[.string a0_1, (TL.hdr a0_2)], Value.pointer (some ⟨b0, 0, none⟩)] : List Value).toArray w [] _
  refine Spec.intro Tryd.func113 rfl Tryd.ntmps113 rfl ?_
  unfold i_Catalog_set_c1 at hp
  try dsimp only [dat_pair, dat_int, dat_bool, dat_str, dat_ar] at hp
  refine W_seq ?_
  refine W_region ?_
  refine L_box rfl rfl (fun bk2 => ?_)
  refine L_assign rfl rfl ?_
  refine L_nil ?_
  refine W_seq ?_
  refine W_region ?_
  refine L_fieldAddr rfl rfl fld72_0 ?_
  refine L_load rfl rfl (RdC.blk (by first | (with_reducible repeat (first | exact List.Mem.head _ | apply List.Mem.tail)); done | (repeat (first | exact List.Mem.head _ | apply List.Mem.tail)))) one9 rfl ?_
  refine L_load0 rfl rfl (RdC.old hb0) one9 rfl ?_
  refine L_binV rfl rfl rfl bv_seql ?_
  refine L_assign rfl rfl ?_
  refine L_nil ?_
  obtain rfl := Option.some.inj hp
  refine W_ret ?_
  refine res1 rfl (ResOK.tmp rfl) ⟨rfl, rfl⟩ (MSub.nil _)

noncomputable def sl_IndexFunc_implCSetimplCSet (a0 : List D_CSet) (a1 : D_CSet → Option Bool) : Option Int :=
  whileP (fun s1 : Int => cond (decide (s1 < (a0.length : Int))) (Option.bind (idx a0 s1) (fun y3 => Option.bind (a1 (y3.1, y3.2)) (fun y4 => cond y4 (Option.map .inr (some s1)) (some (.inl (IntKind.wrap .i64 (s1 + 1))))))) (Option.map .inr (some (-1)))) 0

theorem sl_IndexFunc_implCSetimplCSet_walk (w : World) (a0 : TL T_CSet) (f1 : Nat) (cs1 : List Value) (a1 : D_CSet → Option Bool) (h0 : GT.rd w [] a0) (hf1 : IsFn Tryd.prog f1) (hk1 : ∀ (w' : World) (F : List HP) (u0 : T_CSet) (v : Bool), Holds w [] F w' → GT.rd w' [] u0 → a1 (GT.dat u0) = some v → Spec Tryd.prog f1 ([Value.agg (GT.cells u0).toArray] ++ cs1).toArray w' [] (IsV (.bool v))) (r : Int) (hp : sl_IndexFunc_implCSetimplCSet (GT.dat a0) a1 = some r) : Spec Tryd.prog 112 [(TL.hdr a0), .func (.func f1) #[] cs1.toArray].toArray w [] (IsV (.int .i64 r)) := by
  refine Spec.intro Tryd.func112 rfl Tryd.ntmps112 rfl ?_
  unfold sl_IndexFunc_implCSetimplCSet at hp
  try dsimp only [dat_pair, dat_int, dat_bool, dat_str, dat_ar] at hp
  refine W_seq ?_
  refine W_region ?_
  refine L_assign rfl rfl ?_
  refine L_nil ?_
  refine W_seq ?_
  refine W_seq ?_
  refine W_region ?_
  refine L_move rfl rfl ?_
  refine L_lenP (X := a0) rfl rfl el51 ?_
  refine L_move rfl rfl ?_
  refine L_nil ?_
  refine W_block ?_
  refine W_while (σ := Int) GT.dat (fun (v1_0 : Int) => [(8, .int .i64 v1_0)]) (fun (v1_0 : Int) => []) [(0, _), (1, _), (7, _)] [] 0 hp (Sub.cons rfl (Sub.cons rfl (Sub.cons rfl (Sub.cons rfl (Sub.nil _))))) (MSub.nil _) ?_
  clear hp
  rintro v1_0 x1 hp hx1
  try dsimp only [dat_pair, dat_int, dat_bool, dat_str, dat_ar] at hp
  refine W_weaken (l' := [(0, _), (1, _), (7, _), (8, _)]) (Sub.cons rfl (Sub.cons rfl (Sub.cons rfl (Sub.cons rfl (Sub.nil _))))) (M' := []) (MSub.nil _) ?_
  refine W_seq ?_
  refine W_region ?_
  refine L_binV rfl rfl rfl bv_lss ?_
  refine L_nil ?_
  refine W_seq ?_
  refine W_weaken (l' := [(0, _), (1, _), (7, _), (8, _), (9, _)]) (Sub.cons rfl (Sub.cons rfl (Sub.cons rfl (Sub.cons rfl (Sub.cons rfl (Sub.nil _)))))) (MSub.refl _) ?_
  refine W_cond rfl (fun hc2 => ?_) (fun hc2 => ?_)
  · skip
    replace hp := cond_t hc2 hp
    refine W_skip ?_
    refine W_seq ?_
    refine W_block ?_
    refine W_seq ?_
    refine W_region ?_
    refine L_move rfl rfl ?_
    refine L_assign rfl rfl ?_
    refine L_nil ?_
    refine W_seq ?_
    refine W_region ?_
    refine L_move rfl rfl ?_
    refine L_move rfl rfl ?_
    refine L_move rfl rfl ?_
    have ho := hp; clear hp; obtain ⟨u3, hy3, hp⟩ := idx_bind ho; clear ho
    obtain ⟨u3_1, u3_2⟩ := u3
    refine L_idxA (X := a0) rfl rfl rfl el51 (RdT.old h0) hy3 ?_
    refine L_loadW rfl rfl (RdT.at (RdT.old h0) (hy3).2) (by exact agg72) ?_
    have ho := hp; clear hp; obtain ⟨y4, hy4, hp⟩ := bind_any ho; clear ho
    refine L_callVX rfl rfl hf1 rfl (by exact fun w hw => hk1 w _ (u3_1, u3_2) y4 hw (RdT.now (RdT.pair RdT.str (RdT.snd (RdT.of (RdT.old h0) (hy3).2))) hw) hy4) ?_
    refine L_nil ?_
    refine W_weaken (l' := [(0, _), (1, _), (5, _), (7, _), (8, _), (16, _)]) (Sub.cons rfl (Sub.cons rfl (Sub.cons rfl (Sub.cons rfl (Sub.cons rfl (Sub.cons rfl (Sub.nil _))))))) (MSub.refl _) ?_
    refine W_cond rfl (fun hc5 => ?_) (fun hc5 => ?_)
    · skip
      replace hp := cond_t hc5 hp
      refine W_seq ?_
      refine W_region ?_
      refine L_move rfl rfl ?_
      refine L_assign rfl rfl ?_
      refine L_nil ?_
      have ho := hp; clear hp; obtain ⟨a6, hp, hx_a6⟩ := map_any ho; clear ho
      obtain rfl := hx1 _ hx_a6
      obtain rfl := Option.some.inj hp
      refine W_ret ?_
      refine res1 rfl (ResOK.tmp rfl) ⟨rfl, rfl⟩ (MSub.nil _)
    · skip
      replace hp := cond_f hc5 hp
      refine W_skip ?_
      refine W_region ?_
      refine L_binV rfl rfl rfl bv_add ?_
      refine L_move rfl rfl ?_
      refine L_nil ?_
      exact ⟨IntKind.wrap .i64 (v1_0 + 1), (Sub.cons rfl (Sub.cons rfl (Sub.cons rfl (Sub.cons rfl (Sub.nil _))))), (Arr.sub (MSub.nil _)), some_eq hp⟩
  · skip
    replace hp := cond_f hc2 hp
    refine W_exit ?_
    have ho := hp; clear hp; obtain ⟨a7, hp, hx_a7⟩ := map_any ho; clear ho
    obtain rfl := hx1 _ hx_a7
    refine W_seq ?_
    refine W_region ?_
    refine L_assign rfl rfl ?_
    refine L_nil ?_
    obtain rfl := Option.some.inj hp
    refine W_ret ?_
    refine res1 rfl (ResOK.tmp rfl) ⟨rfl, rfl⟩ (MSub.nil _)

noncomputable def i_Catalog_set (a0 : D_Catalog) (a1 : ByteArray) : Option Int :=
  Option.bind (sl_IndexFunc_implCSetimplCSet a0 (fun z0 => i_Catalog_set_c1 z0 a1)) (fun y1 => some y1)

theorem i_Catalog_set_walk (w : World) (a0 : T_Catalog) (a1 : ByteArray) (h0 : GT.rd w [] a0) (r : Int) (hp : i_Catalog_set (GT.dat a0) a1 = some r) : Spec Tryd.prog 77 [.agg (GT.cells a0).toArray, .string a1].toArray w [] (IsV (.int .i64 r)) := by
  change Spec _ _ ([Value.agg #[(TL.hdr a0)], .string a1] : List Value).toArray w [] _
  refine Spec.intro Tryd.func77 rfl Tryd.ntmps77 rfl ?_
  unfold i_Catalog_set at hp
  try dsimp only [dat_pair, dat_int, dat_bool, dat_str, dat_ar] at hp
  refine W_seq ?_
  refine W_region ?_
  refine L_box rfl rfl (fun bk2 => ?_)
  refine L_box rfl rfl (fun bk3 => ?_)
  refine L_assign rfl rfl ?_
  refine L_nil ?_
  refine W_seq ?_
  refine W_region ?_
  refine L_fieldAddr rfl rfl fld53_0 ?_
  refine L_load rfl rfl (RdC.blk (by first | (with_reducible repeat (first | exact List.Mem.head _ | apply List.Mem.tail)); done | (repeat (first | exact List.Mem.head _ | apply List.Mem.tail)))) one51 rfl ?_
  refine L_makeFunc (fs := []) (cs := [.tmp 3]) rfl rfl rfl ?_
  have ho := hp; clear hp; obtain ⟨y1, hy1, hp⟩ := bind_any ho; clear ho
  refine L_callX rfl fn112 rfl (by exact fun w hw => sl_IndexFunc_implCSetimplCSet_walk w a0 113 [Value.pointer (some ⟨bk3, 0, none⟩)] (fun z0 => i_Catalog_set_c1 z0 a1) (RdT.now (RdT.old h0) hw) fn113 (fun w' F u0 v hF hu0 hv => i_Catalog_set_c1_walk w' u0 bk3 a1 hu0 ((cells_of_blk (by first | (with_reducible repeat (first | exact List.Mem.head _ | apply List.Mem.tail)); done | (repeat (first | exact List.Mem.head _ | apply List.Mem.tail))) hw.sees).carry hF) (rd_carry (RdT.now RdT.str hw) hF) v hv) _ hy1) ?_
  refine L_assign rfl rfl ?_
  refine L_nil ?_
  obtain rfl := Option.some.inj hp
  refine W_ret ?_
  refine res1 rfl (ResOK.tmp rfl) ⟨rfl, rfl⟩ (MSub.nil _)

noncomputable def i_Restore (a0 : D_Catalog) (a1 : List D_Blobs) (a2 : ByteArray) (a3 : ByteArray) : Option (ByteArray × Int) :=
  Option.bind (i_Catalog_set a0 a2) (fun y1 => Option.bind (i_CatOk a0) (fun y2 => gb (!((!y2) || (decide (y1 < 0)))) (idx a0 y1) (fun y3 => gb (!((!y2) || (decide (y1 < 0)))) (i_CSet_snap (y3.1, y3.2) a3) (fun y4 => cond (((!y2) || (decide (y1 < 0))) || (decide (y4 < 0))) (some (ByteArray.empty, 1)) (Option.bind (idx a0 y1) (fun y6 => Option.bind (idx a0 y1) (fun y7 => Option.bind (i_CSet_snap (y7.1, y7.2) a3) (fun y8 => Option.bind (idx y6.2 y8) (fun y9 => whileP (fun s10 : ByteArray × Int => cond (decide (s10.2 < (y9.2.2.length : Int))) (Option.bind (idx y9.2.2 s10.2) (fun y12 => Option.bind (i_Fetch a1 y12) (fun y13 => cond (!decide (y13.2 = 0)) (Option.map .inr (some (ByteArray.empty, y13.2))) (Option.bind (catP s10.1 y13.1) (fun y16 => some (.inl ((y16, IntKind.wrap .i64 (s10.2 + 1))))))))) (Option.map .inr (some (s10.1, 0)))) (ByteArray.empty, 0))))))))))

theorem i_Restore_walk (w : World) (a0 : T_Catalog) (a1 : TL T_Blobs) (a2 : ByteArray) (a3 : ByteArray) (h0 : GT.rd w [] a0) (h1 : GT.rd w [] a1) (hg0 : GT.rd w [] gV0) (r : ByteArray × Int) (hp : i_Restore (GT.dat a0) (GT.dat a1) a2 a3 = some r) : Spec Tryd.prog 34 [.agg (GT.cells a0).toArray, (TL.hdr a1), .string a2, .string a3].toArray w [] (fun v M => ∃ (x0 : ByteArray) (x1 : Int), v = .tuple #[.string x0, .int .i64 x1] ∧ (GT.dat x0, GT.dat x1) = r ∧ M = []) := by
  change Spec _ _ ([Value.agg #[(TL.hdr a0)], (TL.hdr a1), .string a2, .string a3] : List Value).toArray w [] _
  refine Spec.intro Tryd.func34 rfl Tryd.ntmps34 rfl ?_
  unfold i_Restore at hp
  try dsimp only [dat_pair, dat_int, dat_bool, dat_str, dat_ar] at hp
  refine W_seq ?_
  refine W_region ?_
  refine L_box rfl rfl (fun bk4 => ?_)
  refine L_assign rfl rfl ?_
  refine L_assign rfl rfl ?_
  refine L_nil ?_
  refine W_seq ?_
  refine W_region ?_
  refine L_loadW rfl rfl (RdC.blk (by first | (with_reducible repeat (first | exact List.Mem.head _ | apply List.Mem.tail)); done | (repeat (first | exact List.Mem.head _ | apply List.Mem.tail)))) (by exact agg53) ?_
  refine L_move rfl rfl ?_
  have ho := hp; clear hp; obtain ⟨y1, hy1, hp⟩ := bind_any ho; clear ho
  refine L_callX rfl fn77 rfl (by exact fun w hw => i_Catalog_set_walk w a0 a2 (RdT.now (RdT.old h0) hw) _ hy1) ?_
  refine L_assign rfl rfl ?_
  refine L_nil ?_
  refine W_seq ?_
  refine W_seq ?_
  have ho := hp; clear hp; obtain ⟨y2, hy2, hp⟩ := bind_any ho; clear ho
  have ho := hp; clear hp; obtain ⟨u3, hy3, hp⟩ := idx_gb ho; clear ho
  obtain ⟨u3_1, u3_2⟩ := u3
  have ho := hp; clear hp; obtain ⟨y4, hy4, hp⟩ := gb_any ho; clear ho
  refine W_D0 [35] mix (by kernel_rfl) rfl ?_
  refine D_loadW GC.none (OpV.t rfl) (fun hg => RdC.blk (by first | (with_reducible repeat (first | exact List.Mem.head _ | apply List.Mem.tail)); done | (repeat (first | exact List.Mem.head _ | apply List.Mem.tail)))) (by exact agg53) ?_
  refine D_callX GC.none fn78 (OpVs.cons (OpV.t rfl) (OpVs.nil)) (by exact fun hg w F hF hM => i_CatOk_walk w a0 (RdT.nowS (RdT.old h0) hF hM) _ hy2) ?_
  refine D_not GC.none (OpV.t rfl) ?_
  refine D_move GC.none (OpV.t rfl) ?_
  refine D_move (GC.some rfl rfl) (OpV.t rfl) ?_
  refine D_bin (GC.some rfl rfl) (OpV.s rfl) OpV.c (fun hg => bv_lss) ?_
  refine D_or (cy := _) GC.none (OpV.t rfl) (OpV.s rfl) (fun h hb => ⟨h, hb⟩) ?_
  refine D_move GC.none (OpV.t rfl) ?_
  refine D_fieldAddr (GC.some rfl rfl) (OpV.t rfl) fld53_0 ?_
  refine D_load (GC.some rfl rfl) (OpV.s rfl) (fun hg => RdC.blk (by first | (with_reducible repeat (first | exact List.Mem.head _ | apply List.Mem.tail)); done | (repeat (first | exact List.Mem.head _ | apply List.Mem.tail)))) one51 rfl ?_
  refine D_move (GC.some rfl rfl) (OpV.t rfl) ?_
  refine D_idxA (X := a0) (GC.some rfl rfl) (OpV.s rfl) (OpV.s rfl) el51 (RdT.old h0) (fun hg => hy3 (gnot hg.2)) ?_
  refine D_loadW (GC.some rfl rfl) (OpV.s rfl) (fun hg => RdT.at (RdT.old h0) (hy3 (gnot hg.2)).2) (by exact agg72) ?_
  refine D_move (GC.some rfl rfl) (OpV.t rfl) ?_
  refine D_callX (GC.some rfl rfl) fn79 (OpVs.cons (OpV.s rfl) (OpVs.cons (OpV.s rfl) (OpVs.nil))) (by exact fun hg w F hF hM => i_CSet_snap_walk w (u3_1, u3_2) a3 (RdT.nowS (RdT.pair RdT.str (RdT.snd (RdT.of (RdT.old h0) (hy3 (gnot hg.2)).2))) hF hM) _ (hy4 (gnot hg.2))) ?_
  refine D_bin (GC.some rfl rfl) (OpV.s rfl) OpV.c (fun hg => bv_lss) ?_
  refine D_or (cy := _) GC.none (OpV.t rfl) (OpV.s rfl) (fun h hb => ⟨h, hb⟩) ?_
  refine DV_nil ?_
  refine Give_is rfl rfl ?_
  refine Give_drop rfl ?_
  refine Give_drop rfl ?_
  refine Give_drop rfl ?_
  refine Give_drop rfl ?_
  refine Give_drop rfl ?_
  refine Give_drop rfl ?_
  refine Give_drop rfl ?_
  refine Give_drop rfl ?_
  refine Give_drop rfl ?_
  refine Give_drop rfl ?_
  refine Give_drop rfl ?_
  refine Give_drop rfl ?_
  refine Give_drop rfl ?_
  refine Give_drop rfl ?_
  refine Give_drop rfl ?_
  refine Give_drop rfl ?_
  refine Give_nil ?_
  refine W_weaken (l' := [(1, _), (3, _), (4, _), (10, _), (35, _)]) (Sub.cons rfl (Sub.cons rfl (Sub.cons rfl (Sub.cons rfl (Sub.cons rfl (Sub.nil _)))))) (MSub.refl _) ?_
  refine W_cond rfl (fun hc5 => ?_) (fun hc5 => ?_)
  · skip
    replace hp := cond_t hc5 hp
    refine W_seq ?_
    refine W_region ?_
    refine L_assign rfl rfl ?_
    refine L_assign rfl rfl ?_
    refine L_nil ?_
    obtain rfl := Option.some.inj hp
    refine W_ret ?_
    refine res2 rfl (ResOK.tmp rfl) (ResOK.tmp rfl) ⟨ByteArray.empty, 1, rfl, rfl, rfl⟩ (MSub.nil _)
  · skip
    replace hp := cond_f hc5 hp
    refine W_skip ?_
    refine W_seq ?_
    refine W_region ?_
    refine L_assign rfl rfl ?_
    refine L_nil ?_
    refine W_seq ?_
    refine W_seq ?_
    have ho := hp; clear hp; obtain ⟨u6, hy6, hp⟩ := idx_bind ho; clear ho
    obtain ⟨u6_1, u6_2⟩ := u6
    have ho := hp; clear hp; obtain ⟨u7, hy7, hp⟩ := idx_bind ho; clear ho
    obtain rfl : (u6_1, u6_2) = u7 := Option.some.inj (hy6.2.symm.trans hy7.2)
    have ho := hp; clear hp; obtain ⟨y8, hy8, hp⟩ := bind_any ho; clear ho
    have ho := hp; clear hp; obtain ⟨u9, hy9, hp⟩ := idx_bind ho; clear ho
    obtain ⟨u9_1, u9_2, u9_3⟩ := u9
    refine W_D0 [51, 52, 53] mix (by kernel_rfl) rfl ?_
    refine D_fieldAddr GC.none (OpV.t rfl) fld53_0 ?_
    refine D_load GC.none (OpV.t rfl) (fun hg => RdC.blk (by first | (with_reducible repeat (first | exact List.Mem.head _ | apply List.Mem.tail)); done | (repeat (first | exact List.Mem.head _ | apply List.Mem.tail)))) one51 rfl ?_
    refine D_move GC.none (OpV.t rfl) ?_
    refine D_idxA (X := a0) GC.none (OpV.t rfl) (OpV.t rfl) el51 (RdT.old h0) (fun _ => hy6) ?_
    refine D_fieldAddr GC.none (OpV.t rfl) fld72_1 ?_
    refine D_load GC.none (OpV.t rfl) (fun hg => RdT.at (RdT.old h0) (hy6).2) one70 rfl ?_
    refine D_fieldAddr GC.none (OpV.t rfl) fld53_0 ?_
    refine D_load GC.none (OpV.t rfl) (fun hg => RdC.blk (by first | (with_reducible repeat (first | exact List.Mem.head _ | apply List.Mem.tail)); done | (repeat (first | exact List.Mem.head _ | apply List.Mem.tail)))) one51 rfl ?_
    refine D_move GC.none (OpV.t rfl) ?_
    refine D_idxA (X := a0) GC.none (OpV.t rfl) (OpV.t rfl) el51 (RdT.old h0) (fun _ => hy6) ?_
    refine D_loadW GC.none (OpV.t rfl) (fun hg => RdT.at (RdT.old h0) (hy6).2) (by exact agg72) ?_
    refine D_move GC.none (OpV.t rfl) ?_
    refine D_callX GC.none fn79 (OpVs.cons (OpV.t rfl) (OpVs.cons (OpV.t rfl) (OpVs.nil))) (by exact fun hg w F hF hM => i_CSet_snap_walk w (u6_1, u6_2) a3 (RdT.nowS (RdT.pair RdT.str (RdT.snd (RdT.of (RdT.old h0) (hy6).2))) hF hM) _ hy8) ?_
    refine D_idxA (X := u6_2) GC.none (OpV.t rfl) (OpV.t rfl) el70 (RdT.snd (RdT.of (RdT.old h0) (hy6).2)) (fun _ => hy9) ?_
    refine D_fieldAddr GC.none (OpV.t rfl) fld75_2 ?_
    refine D_load GC.none (OpV.t rfl) (fun hg => RdT.at (RdT.snd (RdT.of (RdT.old h0) (hy6).2)) (hy9).2) one73 rfl ?_
    refine D_lenP (X := u9_3) GC.none (OpV.t rfl) el73 ?_
    refine D_move GC.none OpV.c ?_
    refine DV_nil ?_
    refine Give_is rfl rfl ?_
    refine Give_is rfl rfl ?_
    refine Give_is rfl rfl ?_
    refine Give_drop rfl ?_
    refine Give_drop rfl ?_
    refine Give_drop rfl ?_
    refine Give_drop rfl ?_
    refine Give_drop rfl ?_
    refine Give_drop rfl ?_
    refine Give_drop rfl ?_
    refine Give_drop rfl ?_
    refine Give_drop rfl ?_
    refine Give_drop rfl ?_
    refine Give_drop rfl ?_
    refine Give_drop rfl ?_
    refine Give_drop rfl ?_
    refine Give_drop rfl ?_
    refine Give_drop rfl ?_
    refine Give_nil ?_
    refine W_block ?_
    refine W_while (σ := ByteArray × Int) GT.dat (fun ((v10_0, v10_1) : ByteArray × Int) => [(11, .string v10_0), (53, .int .i64 v10_1)]) (fun ((v10_0, v10_1) : ByteArray × Int) => []) [(1, _), (51, _), (52, _)] [] (ByteArray.empty, 0) hp (Sub.cons rfl (Sub.cons rfl (Sub.cons rfl (Sub.cons rfl (Sub.cons rfl (Sub.nil _)))))) (MSub.nil _) ?_
    clear hp
    rintro ⟨v10_0, v10_1⟩ x10 hp hx10
    try dsimp only [dat_pair, dat_int, dat_bool, dat_str, dat_ar] at hp
    refine W_weaken (l' := [(1, _), (11, _), (51, _), (52, _), (53, _)]) (Sub.cons rfl (Sub.cons rfl (Sub.cons rfl (Sub.cons rfl (Sub.cons rfl (Sub.nil _)))))) (M' := []) (MSub.nil _) ?_
    refine W_seq ?_
    refine W_region ?_
    refine L_binV rfl rfl rfl bv_lss ?_
    refine L_nil ?_
    refine W_seq ?_
    refine W_weaken (l' := [(1, _), (11, _), (51, _), (52, _), (53, _), (54, _)]) (Sub.cons rfl (Sub.cons rfl (Sub.cons rfl (Sub.cons rfl (Sub.cons rfl (Sub.cons rfl (Sub.nil _))))))) (MSub.refl _) ?_
    refine W_cond rfl (fun hc11 => ?_) (fun hc11 => ?_)
    · skip
      replace hp := cond_t hc11 hp
      refine W_skip ?_
      refine W_seq ?_
      refine W_block ?_
      refine W_seq ?_
      refine W_region ?_
      have ho := hp; clear hp; obtain ⟨u12, hy12, hp⟩ := idx_bind ho; clear ho
      refine L_idxA (X := u9_3) rfl rfl rfl el73 (RdT.snd (RdT.snd (RdT.of (RdT.snd (RdT.of (RdT.old h0) (hy6).2)) (hy9).2))) hy12 ?_
      refine L_load0 rfl rfl (RdT.at (RdT.snd (RdT.snd (RdT.of (RdT.snd (RdT.of (RdT.old h0) (hy6).2)) (hy9).2))) (hy12).2) one9 rfl ?_
      refine L_assign rfl rfl ?_
      refine L_nil ?_
      refine W_seq ?_
      refine W_region ?_
      refine L_move rfl rfl ?_
      refine L_move rfl rfl ?_
      have ho := hp; clear hp; obtain ⟨y13, hy13, hp⟩ := bind_any ho; clear ho
      refine L_callR rfl fn27 rfl (by exact fun w hw => i_Fetch_walk w a1 u12 (RdT.now (RdT.old h1) hw) (RdT.now (RdT.old hg0) hw) _ hy13) ?_
      rintro vy13 My13 ⟨y13x0, y13x1, hvy13, hdy13, rfl⟩
      subst hvy13
      subst hdy13
      simp only [cells_pair, cells_int, cells_bool, cells_str, cells_TL, List.cons_append, List.nil_append]
      try dsimp only [dat_pair, dat_int, dat_bool, dat_str, dat_ar] at hp
      refine L_move rfl rfl ?_
      refine L_extract rfl rfl rfl ?_
      refine L_extract rfl rfl rfl ?_
      refine L_assign rfl rfl ?_
      refine L_assign rfl rfl ?_
      refine L_nil ?_
      refine W_seq ?_
      refine W_seq ?_
      refine W_region ?_
      refine L_move rfl rfl ?_
      refine L_binV rfl rfl rfl bv_neq ?_
      refine L_nil ?_
      refine W_weaken (l' := [(1, _), (11, _), (14, _), (15, _), (51, _), (52, _), (53, _), (64, _)]) (Sub.cons rfl (Sub.cons rfl (Sub.cons rfl (Sub.cons rfl (Sub.cons rfl (Sub.cons rfl (Sub.cons rfl (Sub.cons rfl (Sub.nil _))))))))) (MSub.refl _) ?_
      refine W_cond rfl (fun hc14 => ?_) (fun hc14 => ?_)
      · skip
        replace hp := cond_t hc14 hp
        refine W_seq ?_
        refine W_region ?_
        refine L_move rfl rfl ?_
        refine L_assign rfl rfl ?_
        refine L_assign rfl rfl ?_
        refine L_nil ?_
        have ho := hp; clear hp; obtain ⟨a15, hp, hx_a15⟩ := map_any ho; clear ho
        obtain rfl := hx10 _ hx_a15
        obtain rfl := Option.some.inj hp
        refine W_ret ?_
        refine res2 rfl (ResOK.tmp rfl) (ResOK.tmp rfl) ⟨ByteArray.empty, y13x1, rfl, rfl, rfl⟩ (MSub.nil _)
      · skip
        replace hp := cond_f hc14 hp
        refine W_skip ?_
        refine W_region ?_
        refine L_move rfl rfl ?_
        refine L_move rfl rfl ?_
        have ho := hp; clear hp; obtain ⟨y16, hy16, hp⟩ := bind_any ho; clear ho
        refine L_binV rfl rfl rfl (bv_saddP hy16) ?_
        refine L_assign rfl rfl ?_
        refine L_nil ?_
        refine W_region ?_
        refine L_binV rfl rfl rfl bv_add ?_
        refine L_move rfl rfl ?_
        refine L_nil ?_
        exact ⟨(y16, IntKind.wrap .i64 (v10_1 + 1)), (Sub.cons rfl (Sub.cons rfl (Sub.cons rfl (Sub.cons rfl (Sub.cons rfl (Sub.nil _)))))), (Arr.sub (MSub.nil _)), some_eq hp⟩
    · skip
      replace hp := cond_f hc11 hp
      refine W_exit ?_
      have ho := hp; clear hp; obtain ⟨a17, hp, hx_a17⟩ := map_any ho; clear ho
      obtain rfl := hx10 _ hx_a17
      refine W_seq ?_
      refine W_region ?_
      refine L_move rfl rfl ?_
      refine L_assign rfl rfl ?_
      refine L_assign rfl rfl ?_
      refine L_nil ?_
      obtain rfl := Option.some.inj hp
      refine W_ret ?_
      refine res2 rfl (ResOK.tmp rfl) (ResOK.tmp rfl) ⟨v10_0, 0, rfl, rfl, rfl⟩ (MSub.nil _)

noncomputable def i_Whole (a0 : D_Catalog) (a1 : List D_Blobs) : Option Bool :=
  whileP (fun s1 : Int => cond (decide (s1 < (a0.length : Int))) (Option.bind (idx a0 s1) (fun y3 => whileP (fun s4 : Int => cond (decide (s4 < (y3.2.length : Int))) (Option.bind (idx y3.2 s4) (fun y6 => Option.bind (i_Restore a0 a1 y3.1 y6.1) (fun y7 => cond (!decide (y7.2 = 0)) (Option.map .inr (Option.map .inr (some false))) (some (.inl (IntKind.wrap .i64 (s4 + 1))))))) (Option.map .inr (some (.inl (IntKind.wrap .i64 (s1 + 1)))))) 0)) (Option.map .inr (Option.bind (i_CatOk a0) (fun y13 => some y13)))) 0

theorem i_Whole_walk (w : World) (a0 : T_Catalog) (a1 : TL T_Blobs) (h0 : GT.rd w [] a0) (h1 : GT.rd w [] a1) (hg0 : GT.rd w [] gV0) (r : Bool) (hp : i_Whole (GT.dat a0) (GT.dat a1) = some r) : Spec Tryd.prog 37 [.agg (GT.cells a0).toArray, (TL.hdr a1)].toArray w [] (IsV (.bool r)) := by
  change Spec _ _ ([Value.agg #[(TL.hdr a0)], (TL.hdr a1)] : List Value).toArray w [] _
  refine Spec.intro Tryd.func37 rfl Tryd.ntmps37 rfl ?_
  unfold i_Whole at hp
  try dsimp only [dat_pair, dat_int, dat_bool, dat_str, dat_ar] at hp
  refine W_seq ?_
  refine W_region ?_
  refine L_box rfl rfl (fun bk2 => ?_)
  refine L_assign rfl rfl ?_
  refine L_nil ?_
  refine W_seq ?_
  refine W_seq ?_
  refine W_region ?_
  refine L_fieldAddr rfl rfl fld53_0 ?_
  refine L_load rfl rfl (RdC.blk (by first | (with_reducible repeat (first | exact List.Mem.head _ | apply List.Mem.tail)); done | (repeat (first | exact List.Mem.head _ | apply List.Mem.tail)))) one51 rfl ?_
  refine L_lenP (X := a0) rfl rfl el51 ?_
  refine L_move rfl rfl ?_
  refine L_nil ?_
  refine W_block ?_
  refine W_while (σ := Int) GT.dat (fun (v1_0 : Int) => [(14, .int .i64 v1_0)]) (fun (v1_0 : Int) => []) [(1, _), (2, _), (12, _), (13, _)] [blk bk2 _ _] 0 hp (Sub.cons rfl (Sub.cons rfl (Sub.cons rfl (Sub.cons rfl (Sub.cons rfl (Sub.nil _)))))) (MSub.cons (by first | (with_reducible repeat (first | exact Pick.here _ | apply Pick.there)); done | (repeat (first | exact Pick.here _ | apply Pick.there))) (MSub.nil _)) ?_
  clear hp
  rintro v1_0 x1 hp hx1
  try dsimp only [dat_pair, dat_int, dat_bool, dat_str, dat_ar] at hp
  refine W_weaken (l' := [(1, _), (2, _), (12, _), (13, _), (14, _)]) (Sub.cons rfl (Sub.cons rfl (Sub.cons rfl (Sub.cons rfl (Sub.cons rfl (Sub.nil _)))))) (M' := [_]) (MSub.cons (by first | (with_reducible repeat (first | exact Pick.here _ | apply Pick.there)); done | (repeat (first | exact Pick.here _ | apply Pick.there))) (MSub.nil _)) ?_
  refine W_seq ?_
  refine W_region ?_
  refine L_binV rfl rfl rfl bv_lss ?_
  refine L_nil ?_
  refine W_seq ?_
  refine W_weaken (l' := [(1, _), (2, _), (12, _), (13, _), (14, _), (15, _)]) (Sub.cons rfl (Sub.cons rfl (Sub.cons rfl (Sub.cons rfl (Sub.cons rfl (Sub.cons rfl (Sub.nil _))))))) (MSub.refl _) ?_
  refine W_cond rfl (fun hc2 => ?_) (fun hc2 => ?_)
  · skip
    replace hp := cond_t hc2 hp
    refine W_skip ?_
    refine W_seq ?_
    refine W_block ?_
    refine W_seq ?_
    refine W_region ?_
    have ho := hp; clear hp; obtain ⟨u3, hy3, hp⟩ := idx_bind ho; clear ho
    obtain ⟨u3_1, u3_2⟩ := u3
    refine L_idxA (X := a0) rfl rfl rfl el51 (RdT.old h0) hy3 ?_
    refine L_loadW rfl rfl (RdT.at (RdT.old h0) (hy3).2) (by exact agg72) ?_
    refine L_alloc rfl zero72 (fun bk6 => ?_)
    refine L_storeW rfl rfl (by first | (with_reducible repeat (first | exact Pick.here _ | apply Pick.there)); done | (repeat (first | exact Pick.here _ | apply Pick.there))) (by exact agg72) (by rfl) (by first | exact allOne rfl | exact fun v hv => GT.one _ v hv | (simp [Value.oneCell', TL.hdr, Value.cells]; done)) ?_
    refine L_nil ?_
    refine W_seq ?_
    refine W_region ?_
    refine L_fieldAddr rfl rfl fld72_1 ?_
    refine L_load rfl rfl (RdC.blk (by first | (with_reducible repeat (first | exact List.Mem.head _ | apply List.Mem.tail)); done | (repeat (first | exact List.Mem.head _ | apply List.Mem.tail)))) one70 rfl ?_
    refine L_lenP (X := u3_2) rfl rfl el70 ?_
    refine L_move rfl rfl ?_
    refine L_nil ?_
    refine W_block ?_
    refine W_while (σ := Int) GT.dat (fun (v4_0 : Int) => [(21, .int .i64 v4_0)]) (fun (v4_0 : Int) => []) [(1, _), (2, _), (6, _), (12, _), (13, _), (14, _), (19, _), (20, _)] [blk bk2 _ _, blk bk6 _ _] 0 hp (Sub.cons rfl (Sub.cons rfl (Sub.cons rfl (Sub.cons rfl (Sub.cons rfl (Sub.cons rfl (Sub.cons rfl (Sub.cons rfl (Sub.cons rfl (Sub.nil _)))))))))) (MSub.cons (by first | (with_reducible repeat (first | exact Pick.here _ | apply Pick.there)); done | (repeat (first | exact Pick.here _ | apply Pick.there))) (MSub.cons (by first | (with_reducible repeat (first | exact Pick.here _ | apply Pick.there)); done | (repeat (first | exact Pick.here _ | apply Pick.there))) (MSub.nil _))) ?_
    clear hp
    rintro v4_0 x4 hp hx4
    try dsimp only [dat_pair, dat_int, dat_bool, dat_str, dat_ar] at hp
    refine W_weaken (l' := [(1, _), (2, _), (6, _), (12, _), (13, _), (14, _), (19, _), (20, _), (21, _)]) (Sub.cons rfl (Sub.cons rfl (Sub.cons rfl (Sub.cons rfl (Sub.cons rfl (Sub.cons rfl (Sub.cons rfl (Sub.cons rfl (Sub.cons rfl (Sub.nil _)))))))))) (M' := [_, _]) (MSub.cons (by first | (with_reducible repeat (first | exact Pick.here _ | apply Pick.there)); done | (repeat (first | exact Pick.here _ | apply Pick.there))) (MSub.cons (by first | (with_reducible repeat (first | exact Pick.here _ | apply Pick.there)); done | (repeat (first | exact Pick.here _ | apply Pick.there))) (MSub.nil _))) ?_
    refine W_seq ?_
    refine W_region ?_
    refine L_binV rfl rfl rfl bv_lss ?_
    refine L_nil ?_
    refine W_seq ?_
    refine W_weaken (l' := [(1, _), (2, _), (6, _), (12, _), (13, _), (14, _), (19, _), (20, _), (21, _), (22, _)]) (Sub.cons rfl (Sub.cons rfl (Sub.cons rfl (Sub.cons rfl (Sub.cons rfl (Sub.cons rfl (Sub.cons rfl (Sub.cons rfl (Sub.cons rfl (Sub.cons rfl (Sub.nil _))))))))))) (MSub.refl _) ?_
    refine W_cond rfl (fun hc5 => ?_) (fun hc5 => ?_)
    · skip
      replace hp := cond_t hc5 hp
      refine W_skip ?_
      refine W_seq ?_
      refine W_block ?_
      refine W_seq ?_
      refine W_region ?_
      have ho := hp; clear hp; obtain ⟨u6, hy6, hp⟩ := idx_bind ho; clear ho
      obtain ⟨u6_1, u6_2, u6_3⟩ := u6
      refine L_idxA (X := u3_2) rfl rfl rfl el70 (RdT.snd (RdT.of (RdT.old h0) (hy3).2)) hy6 ?_
      refine L_loadW rfl rfl (RdT.at (RdT.snd (RdT.of (RdT.old h0) (hy3).2)) (hy6).2) (by exact agg75) ?_
      refine L_alloc rfl zero75 (fun bk8 => ?_)
      refine L_storeW rfl rfl (by first | (with_reducible repeat (first | exact Pick.here _ | apply Pick.there)); done | (repeat (first | exact Pick.here _ | apply Pick.there))) (by exact agg75) (by rfl) (by first | exact allOne rfl | exact fun v hv => GT.one _ v hv | (simp [Value.oneCell', TL.hdr, Value.cells]; done)) ?_
      refine L_nil ?_
      refine W_seq ?_
      refine W_region ?_
      refine L_loadW rfl rfl (RdC.blk (by first | (with_reducible repeat (first | exact List.Mem.head _ | apply List.Mem.tail)); done | (repeat (first | exact List.Mem.head _ | apply List.Mem.tail)))) (by exact agg53) ?_
      refine L_move rfl rfl ?_
      refine L_fieldAddr rfl rfl fld72_0 ?_
      refine L_load rfl rfl (RdC.blk (by first | (with_reducible repeat (first | exact List.Mem.head _ | apply List.Mem.tail)); done | (repeat (first | exact List.Mem.head _ | apply List.Mem.tail)))) one9 rfl ?_
      refine L_fieldAddr rfl rfl fld75_0 ?_
      refine L_load rfl rfl (RdC.blk (by first | (with_reducible repeat (first | exact List.Mem.head _ | apply List.Mem.tail)); done | (repeat (first | exact List.Mem.head _ | apply List.Mem.tail)))) one9 rfl ?_
      have ho := hp; clear hp; obtain ⟨y7, hy7, hp⟩ := bind_any ho; clear ho
      refine L_callR rfl fn34 rfl (by exact fun w hw => i_Restore_walk w a0 a1 u3_1 u6_1 (RdT.now (RdT.old h0) hw) (RdT.now (RdT.old h1) hw) (RdT.now (RdT.old hg0) hw) _ hy7) ?_
      rintro vy7 My7 ⟨y7x0, y7x1, hvy7, hdy7, rfl⟩
      subst hvy7
      subst hdy7
      simp only [cells_pair, cells_int, cells_bool, cells_str, cells_TL, List.cons_append, List.nil_append]
      try dsimp only [dat_pair, dat_int, dat_bool, dat_str, dat_ar] at hp
      refine L_move rfl rfl ?_
      refine L_extract rfl rfl rfl ?_
      refine L_extract rfl rfl rfl ?_
      refine L_assign rfl rfl ?_
      refine L_assign rfl rfl ?_
      refine L_nil ?_
      refine W_seq ?_
      refine W_region ?_
      refine L_move rfl rfl ?_
      refine L_binV rfl rfl rfl bv_neq ?_
      refine L_nil ?_
      refine W_weaken (l' := [(1, _), (2, _), (6, _), (12, _), (13, _), (14, _), (19, _), (20, _), (21, _), (36, _)]) (Sub.cons rfl (Sub.cons rfl (Sub.cons rfl (Sub.cons rfl (Sub.cons rfl (Sub.cons rfl (Sub.cons rfl (Sub.cons rfl (Sub.cons rfl (Sub.cons rfl (Sub.nil _))))))))))) (MSub.refl _) ?_
      refine W_cond rfl (fun hc8 => ?_) (fun hc8 => ?_)
      · skip
        replace hp := cond_t hc8 hp
        refine W_seq ?_
        refine W_region ?_
        refine L_assign rfl rfl ?_
        refine L_nil ?_
        have ho := hp; clear hp; obtain ⟨a9, hp, hx_a9⟩ := map_any ho; clear ho
        obtain rfl := hx4 _ hx_a9
        have ho := hp; clear hp; obtain ⟨a10, hp, hx_a10⟩ := map_any ho; clear ho
        obtain rfl := hx1 _ hx_a10
        obtain rfl := Option.some.inj hp
        refine W_ret ?_
        refine res1 rfl (ResOK.tmp rfl) ⟨rfl, rfl⟩ (MSub.nil _)
      · skip
        replace hp := cond_f hc8 hp
        refine W_skip ?_
        refine W_region ?_
        refine L_binV rfl rfl rfl bv_add ?_
        refine L_move rfl rfl ?_
        refine L_nil ?_
        exact ⟨IntKind.wrap .i64 (v4_0 + 1), (Sub.cons rfl (Sub.cons rfl (Sub.cons rfl (Sub.cons rfl (Sub.cons rfl (Sub.cons rfl (Sub.cons rfl (Sub.cons rfl (Sub.cons rfl (Sub.nil _)))))))))), (Arr.sub (MSub.cons (by first | (with_reducible repeat (first | exact Pick.here _ | apply Pick.there)); done | (repeat (first | exact Pick.here _ | apply Pick.there))) (MSub.cons (by first | (with_reducible repeat (first | exact Pick.here _ | apply Pick.there)); done | (repeat (first | exact Pick.here _ | apply Pick.there))) (MSub.nil _)))), some_eq hp⟩
    · skip
      replace hp := cond_f hc5 hp
      refine W_exit ?_
      have ho := hp; clear hp; obtain ⟨a11, hp, hx_a11⟩ := map_any ho; clear ho
      obtain rfl := hx4 _ hx_a11
      refine W_region ?_
      refine L_binV rfl rfl rfl bv_add ?_
      refine L_move rfl rfl ?_
      refine L_nil ?_
      exact ⟨IntKind.wrap .i64 (v1_0 + 1), (Sub.cons rfl (Sub.cons rfl (Sub.cons rfl (Sub.cons rfl (Sub.cons rfl (Sub.nil _)))))), (Arr.sub (MSub.cons (by first | (with_reducible repeat (first | exact Pick.here _ | apply Pick.there)); done | (repeat (first | exact Pick.here _ | apply Pick.there))) (MSub.nil _))), some_eq hp⟩
  · skip
    replace hp := cond_f hc2 hp
    refine W_exit ?_
    have ho := hp; clear hp; obtain ⟨a12, hp, hx_a12⟩ := map_any ho; clear ho
    obtain rfl := hx1 _ hx_a12
    refine W_seq ?_
    refine W_region ?_
    refine L_loadW rfl rfl (RdC.blk (by first | (with_reducible repeat (first | exact List.Mem.head _ | apply List.Mem.tail)); done | (repeat (first | exact List.Mem.head _ | apply List.Mem.tail)))) (by exact agg53) ?_
    have ho := hp; clear hp; obtain ⟨y13, hy13, hp⟩ := bind_any ho; clear ho
    refine L_callX rfl fn78 rfl (by exact fun w hw => i_CatOk_walk w a0 (RdT.now (RdT.old h0) hw) _ hy13) ?_
    refine L_assign rfl rfl ?_
    refine L_nil ?_
    obtain rfl := Option.some.inj hp
    refine W_ret ?_
    refine res1 rfl (ResOK.tmp rfl) ⟨rfl, rfl⟩ (MSub.nil _)

end Go.Proofs.SL
