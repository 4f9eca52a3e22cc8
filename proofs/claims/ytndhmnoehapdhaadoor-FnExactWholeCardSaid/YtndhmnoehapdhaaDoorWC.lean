/- Walks of functions, each with the function on data that it follows. -/
import Derived.Test.YtndhmnoehapdhaaDoorWL
import Derived.Test.YtndhmnoehapdhaaDoorFC
namespace Go.Proofs.SL
open Go
abbrev D_CSnap := ByteArray × ByteArray × (List ByteArray)
abbrev D_CSet := ByteArray × (List D_CSnap)
abbrev D_Catalog := (List D_CSet)
theorem fn109 : IsFn Tryd.prog 109 := ⟨_, Tryd.func109, by kernel_rfl, rfl⟩
theorem fn110 : IsFn Tryd.prog 110 := ⟨_, Tryd.func110, by kernel_rfl, rfl⟩
theorem fn74 : IsFn Tryd.prog 74 := ⟨_, Tryd.func74, by kernel_rfl, rfl⟩
theorem fn116 : IsFn Tryd.prog 116 := ⟨_, Tryd.func116, by kernel_rfl, rfl⟩
theorem fn115 : IsFn Tryd.prog 115 := ⟨_, Tryd.func115, by kernel_rfl, rfl⟩
theorem fn139 : IsFn Tryd.prog 139 := ⟨_, Tryd.func139, by kernel_rfl, rfl⟩
theorem fn140 : IsFn Tryd.prog 140 := ⟨_, Tryd.func140, by kernel_rfl, rfl⟩
theorem fn79 : IsFn Tryd.prog 79 := ⟨_, Tryd.func79, by kernel_rfl, rfl⟩
theorem fn114 : IsFn Tryd.prog 114 := ⟨_, Tryd.func114, by kernel_rfl, rfl⟩
noncomputable def s_l4Word (a0 : ByteArray) : Option Bool :=
  Option.bind (s_l1In (a0.size : Int) 1 8) (fun y1 => cond (!y1) (some false) (whileP (fun s3 : Int => cond (decide (s3 < (a0.size : Int))) (Option.bind (sidx a0 s3) (fun y5 => gb (!(decide (y5 < 97))) (sidx a0 s3) (fun y6 => cond ((decide (y5 < 97)) || (decide (122 < y6))) (Option.map .inr (some false)) (some (.inl (IntKind.wrap .i64 (s3 + 1))))))) (Option.map .inr (some true))) 0))

theorem s_l4Word_walk (w : World) (a0 : ByteArray)  (r : Bool) (hp : s_l4Word a0 = some r) : Spec Tryd.prog 109 [.string a0].toArray w [] (IsV (.bool r)) := by
  refine Spec.intro Tryd.func109 rfl Tryd.ntmps109 rfl ?_
  unfold s_l4Word at hp
  try dsimp only [dat_pair, dat_int, dat_bool, dat_str, dat_ar] at hp
  refine W_seq ?_
  refine W_region ?_
  refine L_assign rfl rfl ?_
  refine L_nil ?_
  refine W_seq ?_
  refine W_seq ?_
  refine W_region ?_
  refine L_move rfl rfl ?_
  refine L_lenT rfl rfl str9 ?_
  have ho := hp; clear hp; obtain ⟨y1, hy1, hp⟩ := bind_any ho; clear ho
  refine L_callX rfl fn86 rfl (by exact fun w hw => s_l1In_walk w (a0.size : Int) 1 8  _ hy1) ?_
  refine L_not rfl rfl ?_
  refine L_nil ?_
  refine W_weaken (l' := [(0, _), (7, _)]) (Sub.cons rfl (Sub.cons rfl (Sub.nil _))) (MSub.refl _) ?_
  refine W_cond rfl (fun hc2 => ?_) (fun hc2 => ?_)
  · skip
    replace hp := cond_t hc2 hp
    refine W_seq ?_
    refine W_region ?_
    refine L_assign rfl rfl ?_
    refine L_nil ?_
    obtain rfl := Option.some.inj hp
    refine W_ret ?_
    refine res1 rfl (ResOK.tmp rfl) ⟨rfl, rfl⟩ (MSub.nil _)
  · skip
    replace hp := cond_f hc2 hp
    refine W_skip ?_
    refine W_seq ?_
    refine W_seq ?_
    refine W_region ?_
    refine L_assign rfl rfl ?_
    refine L_nil ?_
    refine W_block ?_
    refine W_while (σ := Int) GT.dat (fun (v3_0 : Int) => [(3, .int .i64 v3_0)]) (fun (v3_0 : Int) => []) [(0, _)] [] 0 hp (Sub.cons rfl (Sub.cons rfl (Sub.nil _))) (MSub.nil _) ?_
    clear hp
    rintro v3_0 x3 hp hx3
    try dsimp only [dat_pair, dat_int, dat_bool, dat_str, dat_ar] at hp
    refine W_weaken (l' := [(0, _), (3, _)]) (Sub.cons rfl (Sub.cons rfl (Sub.nil _))) (M' := []) (MSub.nil _) ?_
    refine W_seq ?_
    refine W_seq ?_
    refine W_region ?_
    refine L_move rfl rfl ?_
    refine L_move rfl rfl ?_
    refine L_lenT rfl rfl str9 ?_
    refine L_binV rfl rfl rfl bv_lss ?_
    refine L_nil ?_
    refine W_weaken (l' := [(0, _), (3, _), (11, _)]) (Sub.cons rfl (Sub.cons rfl (Sub.cons rfl (Sub.nil _)))) (MSub.refl _) ?_
    refine W_cond rfl (fun hc4 => ?_) (fun hc4 => ?_)
    · skip
      replace hp := cond_t hc4 hp
      refine W_skip ?_
      refine W_seq ?_
      refine W_block ?_
      refine W_seq ?_
      have ho := hp; clear hp; obtain ⟨y5, hy5, hp⟩ := bind_any ho; clear ho
      have ho := hp; clear hp; obtain ⟨y6, hy6, hp⟩ := gb_any ho; clear ho
      refine W_D0 [23] mix (by kernel_rfl) rfl ?_
      refine D_move GC.none (OpV.t rfl) ?_
      refine D_move GC.none (OpV.t rfl) ?_
      refine D_idxS GC.none (OpV.t rfl) (OpV.t rfl) str9 (fun hg => hy5) ?_
      refine D_bin GC.none (OpV.t rfl) OpV.c (fun hg => bv_lss) ?_
      refine D_move GC.none (OpV.t rfl) ?_
      refine D_move (GC.some rfl rfl) (OpV.t rfl) ?_
      refine D_move (GC.some rfl rfl) (OpV.t rfl) ?_
      refine D_idxS (GC.some rfl rfl) (OpV.s rfl) (OpV.s rfl) str9 (fun hg => (hy6 (gnot hg.2))) ?_
      refine D_bin (GC.some rfl rfl) (OpV.s rfl) OpV.c (fun hg => bv_gtr) ?_
      refine D_or (cy := _) GC.none (OpV.t rfl) (OpV.s rfl) (fun h hb => ⟨h, hb⟩) ?_
      refine DV_nil ?_
      refine Give_is rfl rfl ?_
      refine Give_drop rfl ?_
      refine Give_drop rfl ?_
      refine Give_drop rfl ?_
      refine Give_drop rfl ?_
      refine Give_drop rfl ?_
      refine Give_drop rfl ?_
      refine Give_drop rfl ?_
      refine Give_drop rfl ?_
      refine Give_drop rfl ?_
      refine Give_nil ?_
      refine W_weaken (l' := [(0, _), (3, _), (23, _)]) (Sub.cons rfl (Sub.cons rfl (Sub.cons rfl (Sub.nil _)))) (MSub.refl _) ?_
      refine W_cond rfl (fun hc7 => ?_) (fun hc7 => ?_)
      · skip
        replace hp := cond_t hc7 hp
        refine W_seq ?_
        refine W_region ?_
        refine L_assign rfl rfl ?_
        refine L_nil ?_
        have ho := hp; clear hp; obtain ⟨a8, hp, hx_a8⟩ := map_any ho; clear ho
        obtain rfl := hx3 _ hx_a8
        obtain rfl := Option.some.inj hp
        refine W_ret ?_
        refine res1 rfl (ResOK.tmp rfl) ⟨rfl, rfl⟩ (MSub.nil _)
      · skip
        replace hp := cond_f hc7 hp
        refine W_skip ?_
        refine W_region ?_
        refine L_move rfl rfl ?_
        refine L_binV rfl rfl rfl bv_add ?_
        refine L_assign rfl rfl ?_
        refine L_nil ?_
        exact ⟨IntKind.wrap .i64 (v3_0 + 1), (Sub.cons rfl (Sub.cons rfl (Sub.nil _))), (Arr.sub (MSub.nil _)), some_eq hp⟩
    · skip
      replace hp := cond_f hc4 hp
      refine W_exit ?_
      have ho := hp; clear hp; obtain ⟨a9, hp, hx_a9⟩ := map_any ho; clear ho
      obtain rfl := hx3 _ hx_a9
      refine W_seq ?_
      refine W_region ?_
      refine L_assign rfl rfl ?_
      refine L_nil ?_
      obtain rfl := Option.some.inj hp
      refine W_ret ?_
      refine res1 rfl (ResOK.tmp rfl) ⟨rfl, rfl⟩ (MSub.nil _)

noncomputable def i_isWord (a0 : ByteArray) : Option Bool :=
  whileP (fun s1 : Int => cond (decide (s1 < (a0.size : Int))) (Option.bind (sidx a0 s1) (fun y3 => gb (!(decide (y3 < 97))) (sidx a0 s1) (fun y4 => cond ((decide (y3 < 97)) || (decide (122 < y4))) (Option.map .inr (some false)) (some (.inl (IntKind.wrap .i64 (s1 + 1))))))) (Option.map .inr (Option.bind (i_within (a0.size : Int) 1 8) (fun y8 => some y8)))) 0

theorem i_isWord_walk (w : World) (a0 : ByteArray)  (r : Bool) (hp : i_isWord a0 = some r) : Spec Tryd.prog 139 [.string a0].toArray w [] (IsV (.bool r)) := by
  refine Spec.intro Tryd.func139 rfl Tryd.ntmps139 rfl ?_
  unfold i_isWord at hp
  try dsimp only [dat_pair, dat_int, dat_bool, dat_str, dat_ar] at hp
  refine W_seq ?_
  refine W_region ?_
  refine L_assign rfl rfl ?_
  refine L_nil ?_
  refine W_seq ?_
  refine W_seq ?_
  refine W_region ?_
  refine L_assign rfl rfl ?_
  refine L_nil ?_
  refine W_block ?_
  refine W_while (σ := Int) GT.dat (fun (v1_0 : Int) => [(3, .int .i64 v1_0)]) (fun (v1_0 : Int) => []) [(0, _)] [] 0 hp (Sub.cons rfl (Sub.cons rfl (Sub.nil _))) (MSub.nil _) ?_
  clear hp
  rintro v1_0 x1 hp hx1
  try dsimp only [dat_pair, dat_int, dat_bool, dat_str, dat_ar] at hp
  refine W_weaken (l' := [(0, _), (3, _)]) (Sub.cons rfl (Sub.cons rfl (Sub.nil _))) (M' := []) (MSub.nil _) ?_
  refine W_seq ?_
  refine W_seq ?_
  refine W_region ?_
  refine L_move rfl rfl ?_
  refine L_move rfl rfl ?_
  refine L_lenT rfl rfl str9 ?_
  refine L_binV rfl rfl rfl bv_lss ?_
  refine L_nil ?_
  refine W_weaken (l' := [(0, _), (3, _), (7, _)]) (Sub.cons rfl (Sub.cons rfl (Sub.cons rfl (Sub.nil _)))) (MSub.refl _) ?_
  refine W_cond rfl (fun hc2 => ?_) (fun hc2 => ?_)
  · skip
    replace hp := cond_t hc2 hp
    refine W_skip ?_
    refine W_seq ?_
    refine W_block ?_
    refine W_seq ?_
    have ho := hp; clear hp; obtain ⟨y3, hy3, hp⟩ := bind_any ho; clear ho
    have ho := hp; clear hp; obtain ⟨y4, hy4, hp⟩ := gb_any ho; clear ho
    refine W_D0 [19] mix (by kernel_rfl) rfl ?_
    refine D_move GC.none (OpV.t rfl) ?_
    refine D_move GC.none (OpV.t rfl) ?_
    refine D_idxS GC.none (OpV.t rfl) (OpV.t rfl) str9 (fun hg => hy3) ?_
    refine D_bin GC.none (OpV.t rfl) OpV.c (fun hg => bv_lss) ?_
    refine D_move GC.none (OpV.t rfl) ?_
    refine D_move (GC.some rfl rfl) (OpV.t rfl) ?_
    refine D_move (GC.some rfl rfl) (OpV.t rfl) ?_
    refine D_idxS (GC.some rfl rfl) (OpV.s rfl) (OpV.s rfl) str9 (fun hg => (hy4 (gnot hg.2))) ?_
    refine D_bin (GC.some rfl rfl) (OpV.s rfl) OpV.c (fun hg => bv_gtr) ?_
    refine D_or (cy := _) GC.none (OpV.t rfl) (OpV.s rfl) (fun h hb => ⟨h, hb⟩) ?_
    refine DV_nil ?_
    refine Give_is rfl rfl ?_
    refine Give_drop rfl ?_
    refine Give_drop rfl ?_
    refine Give_drop rfl ?_
    refine Give_drop rfl ?_
    refine Give_drop rfl ?_
    refine Give_drop rfl ?_
    refine Give_drop rfl ?_
    refine Give_drop rfl ?_
    refine Give_drop rfl ?_
    refine Give_nil ?_
    refine W_weaken (l' := [(0, _), (3, _), (19, _)]) (Sub.cons rfl (Sub.cons rfl (Sub.cons rfl (Sub.nil _)))) (MSub.refl _) ?_
    refine W_cond rfl (fun hc5 => ?_) (fun hc5 => ?_)
    · skip
      replace hp := cond_t hc5 hp
      refine W_seq ?_
      refine W_region ?_
      refine L_assign rfl rfl ?_
      refine L_nil ?_
      have ho := hp; clear hp; obtain ⟨a6, hp, hx_a6⟩ := map_any ho; clear ho
      obtain rfl := hx1 _ hx_a6
      obtain rfl := Option.some.inj hp
      refine W_ret ?_
      refine res1 rfl (ResOK.tmp rfl) ⟨rfl, rfl⟩ (MSub.nil _)
    · skip
      replace hp := cond_f hc5 hp
      refine W_skip ?_
      refine W_region ?_
      refine L_move rfl rfl ?_
      refine L_binV rfl rfl rfl bv_add ?_
      refine L_assign rfl rfl ?_
      refine L_nil ?_
      exact ⟨IntKind.wrap .i64 (v1_0 + 1), (Sub.cons rfl (Sub.cons rfl (Sub.nil _))), (Arr.sub (MSub.nil _)), some_eq hp⟩
  · skip
    replace hp := cond_f hc2 hp
    refine W_exit ?_
    have ho := hp; clear hp; obtain ⟨a7, hp, hx_a7⟩ := map_any ho; clear ho
    obtain rfl := hx1 _ hx_a7
    refine W_seq ?_
    refine W_region ?_
    refine L_move rfl rfl ?_
    refine L_lenT rfl rfl str9 ?_
    have ho := hp; clear hp; obtain ⟨y8, hy8, hp⟩ := bind_any ho; clear ho
    refine L_callX rfl fn102 rfl (by exact fun w hw => i_within_walk w (a0.size : Int) 1 8  _ hy8) ?_
    refine L_assign rfl rfl ?_
    refine L_nil ?_
    obtain rfl := Option.some.inj hp
    refine W_ret ?_
    refine res1 rfl (ResOK.tmp rfl) ⟨rfl, rfl⟩ (MSub.nil _)

noncomputable def i_areChunks (a0 : List ByteArray) : Option Bool :=
  whileP (fun s1 : Int => cond (decide (s1 < (a0.length : Int))) (Option.bind (idx a0 s1) (fun y3 => cond (!decide ((y3.size : Int) = 8)) (Option.map .inr (some false)) (some (.inl (IntKind.wrap .i64 (s1 + 1)))))) (Option.map .inr (some true))) 0

theorem i_areChunks_walk (w : World) (a0 : TL ByteArray) (h0 : GT.rd w [] a0) (r : Bool) (hp : i_areChunks (GT.dat a0) = some r) : Spec Tryd.prog 140 [(TL.hdr a0)].toArray w [] (IsV (.bool r)) := by
  refine Spec.intro Tryd.func140 rfl Tryd.ntmps140 rfl ?_
  unfold i_areChunks at hp
  try dsimp only [dat_pair, dat_int, dat_bool, dat_str, dat_ar] at hp
  refine W_seq ?_
  refine W_region ?_
  refine L_assign rfl rfl ?_
  refine L_nil ?_
  refine W_seq ?_
  refine W_seq ?_
  refine W_region ?_
  refine L_move rfl rfl ?_
  refine L_lenP (X := a0) rfl rfl el73 ?_
  refine L_move rfl rfl ?_
  refine L_nil ?_
  refine W_block ?_
  refine W_while (σ := Int) GT.dat (fun (v1_0 : Int) => [(7, .int .i64 v1_0)]) (fun (v1_0 : Int) => []) [(5, _), (6, _)] [] 0 hp (Sub.cons rfl (Sub.cons rfl (Sub.cons rfl (Sub.nil _)))) (MSub.nil _) ?_
  clear hp
  rintro v1_0 x1 hp hx1
  try dsimp only [dat_pair, dat_int, dat_bool, dat_str, dat_ar] at hp
  refine W_weaken (l' := [(5, _), (6, _), (7, _)]) (Sub.cons rfl (Sub.cons rfl (Sub.cons rfl (Sub.nil _)))) (M' := []) (MSub.nil _) ?_
  refine W_seq ?_
  refine W_region ?_
  refine L_binV rfl rfl rfl bv_lss ?_
  refine L_nil ?_
  refine W_seq ?_
  refine W_weaken (l' := [(5, _), (6, _), (7, _), (8, _)]) (Sub.cons rfl (Sub.cons rfl (Sub.cons rfl (Sub.cons rfl (Sub.nil _))))) (MSub.refl _) ?_
  refine W_cond rfl (fun hc2 => ?_) (fun hc2 => ?_)
  · skip
    replace hp := cond_t hc2 hp
    refine W_skip ?_
    refine W_seq ?_
    refine W_block ?_
    refine W_seq ?_
    refine W_region ?_
    have ho := hp; clear hp; obtain ⟨u3, hy3, hp⟩ := idx_bind ho; clear ho
    refine L_idxA (X := a0) rfl rfl rfl el73 (RdT.old h0) hy3 ?_
    refine L_load0 rfl rfl (RdT.at (RdT.old h0) (hy3).2) one9 rfl ?_
    refine L_assign rfl rfl ?_
    refine L_nil ?_
    refine W_seq ?_
    refine W_region ?_
    refine L_move rfl rfl ?_
    refine L_lenT rfl rfl str9 ?_
    refine L_binV rfl rfl rfl bv_neq ?_
    refine L_nil ?_
    refine W_weaken (l' := [(5, _), (6, _), (7, _), (13, _)]) (Sub.cons rfl (Sub.cons rfl (Sub.cons rfl (Sub.cons rfl (Sub.nil _))))) (MSub.refl _) ?_
    refine W_cond rfl (fun hc4 => ?_) (fun hc4 => ?_)
    · skip
      replace hp := cond_t hc4 hp
      refine W_seq ?_
      refine W_region ?_
      refine L_assign rfl rfl ?_
      refine L_nil ?_
      have ho := hp; clear hp; obtain ⟨a5, hp, hx_a5⟩ := map_any ho; clear ho
      obtain rfl := hx1 _ hx_a5
      obtain rfl := Option.some.inj hp
      refine W_ret ?_
      refine res1 rfl (ResOK.tmp rfl) ⟨rfl, rfl⟩ (MSub.nil _)
    · skip
      replace hp := cond_f hc4 hp
      refine W_skip ?_
      refine W_region ?_
      refine L_binV rfl rfl rfl bv_add ?_
      refine L_move rfl rfl ?_
      refine L_nil ?_
      exact ⟨IntKind.wrap .i64 (v1_0 + 1), (Sub.cons rfl (Sub.cons rfl (Sub.cons rfl (Sub.nil _)))), (Arr.sub (MSub.nil _)), some_eq hp⟩
  · skip
    replace hp := cond_f hc2 hp
    refine W_exit ?_
    have ho := hp; clear hp; obtain ⟨a6, hp, hx_a6⟩ := map_any ho; clear ho
    obtain rfl := hx1 _ hx_a6
    refine W_seq ?_
    refine W_region ?_
    refine L_assign rfl rfl ?_
    refine L_nil ?_
    obtain rfl := Option.some.inj hp
    refine W_ret ?_
    refine res1 rfl (ResOK.tmp rfl) ⟨rfl, rfl⟩ (MSub.nil _)

noncomputable def s_l15Snap (a0 : D_CSnap) : Option Bool :=
  Option.bind (s_l4Word a0.1) (fun y1 => gb ((!(!y1)) && (!decide (a0.2.1 = ByteArray.empty))) (s_l4Word a0.2.1) (fun y2 => gb (!((!y1) || ((!decide (a0.2.1 = ByteArray.empty)) && (!y2)))) (s_l1In (a0.2.2.length : Int) 1 4) (fun y3 => cond (((!y1) || ((!decide (a0.2.1 = ByteArray.empty)) && (!y2))) || (!y3)) (some false) (whileP (fun s5 : Int => cond (decide (s5 < (a0.2.2.length : Int))) (Option.bind (idx a0.2.2 s5) (fun y7 => cond (!decide ((y7.size : Int) = 8)) (Option.map .inr (some false)) (some (.inl (IntKind.wrap .i64 (s5 + 1)))))) (Option.map .inr (some true))) 0))))

theorem s_l15Snap_walk (w : World) (a0 : T_CSnap) (h0 : GT.rd w [] a0) (r : Bool) (hp : s_l15Snap (GT.dat a0) = some r) : Spec Tryd.prog 110 [.agg (GT.cells a0).toArray].toArray w [] (IsV (.bool r)) := by
  obtain ⟨a0_1, a0_2, a0_3⟩ := a0
  change Spec _ _ ([Value.agg #[.string a0_1, .string a0_2, (TL.hdr a0_3)]] : List Value).toArray w [] _
  refine Spec.intro Tryd.func110 rfl Tryd.ntmps110 rfl ?_
  unfold s_l15Snap at hp
  try dsimp only [dat_pair, dat_int, dat_bool, dat_str, dat_ar] at hp
  refine W_seq ?_
  refine W_region ?_
  refine L_box rfl rfl (fun bk1 => ?_)
  refine L_assign rfl rfl ?_
  refine L_nil ?_
  refine W_seq ?_
  refine W_seq ?_
  have ho := hp; clear hp; obtain ⟨y1, hy1, hp⟩ := bind_any ho; clear ho
  have ho := hp; clear hp; obtain ⟨y2, hy2, hp⟩ := gb_any ho; clear ho
  have ho := hp; clear hp; obtain ⟨y3, hy3, hp⟩ := gb_any ho; clear ho
  refine W_D0 [25] mix (by kernel_rfl) rfl ?_
  refine D_fieldAddr GC.none (OpV.t rfl) fld75_0 ?_
  refine D_load GC.none (OpV.t rfl) (fun hg => RdC.blk (by first | (with_reducible repeat (first | exact List.Mem.head _ | apply List.Mem.tail)); done | (repeat (first | exact List.Mem.head _ | apply List.Mem.tail)))) one9 rfl ?_
  refine D_callX GC.none fn109 (OpVs.cons (OpV.t rfl) (OpVs.nil)) (by exact fun hg w F hF hM => s_l4Word_walk w a0_1  _ hy1) ?_
  refine D_not GC.none (OpV.t rfl) ?_
  refine D_move GC.none (OpV.t rfl) ?_
  refine D_fieldAddr (GC.some rfl rfl) (OpV.t rfl) fld75_1 ?_
  refine D_load (GC.some rfl rfl) (OpV.s rfl) (fun hg => RdC.blk (by first | (with_reducible repeat (first | exact List.Mem.head _ | apply List.Mem.tail)); done | (repeat (first | exact List.Mem.head _ | apply List.Mem.tail)))) one9 rfl ?_
  refine D_bin (GC.some rfl rfl) (OpV.s rfl) OpV.c (fun hg => bv_sneq) ?_
  refine D_move (GC.some rfl rfl) (OpV.s rfl) ?_
  refine D_fieldAddr (GC.some rfl rfl) (OpV.t rfl) fld75_1 ?_
  refine D_load (GC.some rfl rfl) (OpV.s rfl) (fun hg => RdC.blk (by first | (with_reducible repeat (first | exact List.Mem.head _ | apply List.Mem.tail)); done | (repeat (first | exact List.Mem.head _ | apply List.Mem.tail)))) one9 rfl ?_
  refine D_callX (GC.some rfl rfl) fn109 (OpVs.cons (OpV.s rfl) (OpVs.nil)) (by exact fun hg w F hF hM => s_l4Word_walk w a0_2  _ (hy2 (gand (gnot hg.1.2) hg.2))) ?_
  refine D_not (GC.some rfl rfl) (OpV.s rfl) ?_
  refine D_and (cy := _) (GC.some rfl rfl) (OpV.s rfl) (OpV.s rfl) (fun h hb => ⟨h, hb⟩) ?_
  refine D_or (cy := _) GC.none (OpV.t rfl) (OpV.s rfl) (fun h hb => ⟨h, hb⟩) ?_
  refine D_move GC.none (OpV.t rfl) ?_
  refine D_fieldAddr (GC.some rfl rfl) (OpV.t rfl) fld75_2 ?_
  refine D_load (GC.some rfl rfl) (OpV.s rfl) (fun hg => RdC.blk (by first | (with_reducible repeat (first | exact List.Mem.head _ | apply List.Mem.tail)); done | (repeat (first | exact List.Mem.head _ | apply List.Mem.tail)))) one73 rfl ?_
  refine D_lenP (X := a0_3) (GC.some rfl rfl) (OpV.s rfl) el73 ?_
  refine D_callX (GC.some rfl rfl) fn86 (OpVs.cons (OpV.s rfl) (OpVs.cons OpV.c (OpVs.cons OpV.c (OpVs.nil)))) (by exact fun hg w F hF hM => s_l1In_walk w ((GT.dat a0_3).length : Int) 1 4  _ (hy3 (gnot hg.2))) ?_
  refine D_not (GC.some rfl rfl) (OpV.s rfl) ?_
  refine D_or (cy := _) GC.none (OpV.t rfl) (OpV.s rfl) (fun h hb => ⟨h, hb⟩) ?_
  refine DV_nil ?_
  refine Give_is rfl rfl ?_
  refine Give_drop rfl ?_
  refine Give_drop rfl ?_
  refine Give_drop rfl ?_
  refine Give_drop rfl ?_
  refine Give_drop rfl ?_
  refine Give_drop rfl ?_
  refine Give_drop rfl ?_
  refine Give_drop rfl ?_
  refine Give_drop rfl ?_
  refine Give_drop rfl ?_
  refine Give_drop rfl ?_
  refine Give_drop rfl ?_
  refine Give_drop rfl ?_
  refine Give_drop rfl ?_
  refine Give_drop rfl ?_
  refine Give_drop rfl ?_
  refine Give_drop rfl ?_
  refine Give_drop rfl ?_
  refine Give_drop rfl ?_
  refine Give_drop rfl ?_
  refine Give_drop rfl ?_
  refine Give_nil ?_
  refine W_weaken (l' := [(1, _), (25, _)]) (Sub.cons rfl (Sub.cons rfl (Sub.nil _))) (MSub.refl _) ?_
  refine W_cond rfl (fun hc4 => ?_) (fun hc4 => ?_)
  · skip
    replace hp := cond_t hc4 hp
    refine W_seq ?_
    refine W_region ?_
    refine L_assign rfl rfl ?_
    refine L_nil ?_
    obtain rfl := Option.some.inj hp
    refine W_ret ?_
    refine res1 rfl (ResOK.tmp rfl) ⟨rfl, rfl⟩ (MSub.nil _)
  · skip
    replace hp := cond_f hc4 hp
    refine W_skip ?_
    refine W_seq ?_
    refine W_seq ?_
    refine W_region ?_
    refine L_assign rfl rfl ?_
    refine L_nil ?_
    refine W_block ?_
    refine W_while (σ := Int) GT.dat (fun (v5_0 : Int) => [(3, .int .i64 v5_0)]) (fun (v5_0 : Int) => []) [(1, _)] [blk bk1 _ _] 0 hp (Sub.cons rfl (Sub.cons rfl (Sub.nil _))) (MSub.cons (by first | (with_reducible repeat (first | exact Pick.here _ | apply Pick.there)); done | (repeat (first | exact Pick.here _ | apply Pick.there))) (MSub.nil _)) ?_
    clear hp
    rintro v5_0 x5 hp hx5
    try dsimp only [dat_pair, dat_int, dat_bool, dat_str, dat_ar] at hp
    refine W_weaken (l' := [(1, _), (3, _)]) (Sub.cons rfl (Sub.cons rfl (Sub.nil _))) (M' := [_]) (MSub.cons (by first | (with_reducible repeat (first | exact Pick.here _ | apply Pick.there)); done | (repeat (first | exact Pick.here _ | apply Pick.there))) (MSub.nil _)) ?_
    refine W_seq ?_
    refine W_seq ?_
    refine W_region ?_
    refine L_move rfl rfl ?_
    refine L_fieldAddr rfl rfl fld75_2 ?_
    refine L_load rfl rfl (RdC.blk (by first | (with_reducible repeat (first | exact List.Mem.head _ | apply List.Mem.tail)); done | (repeat (first | exact List.Mem.head _ | apply List.Mem.tail)))) one73 rfl ?_
    refine L_lenP (X := a0_3) rfl rfl el73 ?_
    refine L_binV rfl rfl rfl bv_lss ?_
    refine L_nil ?_
    refine W_weaken (l' := [(1, _), (3, _), (30, _)]) (Sub.cons rfl (Sub.cons rfl (Sub.cons rfl (Sub.nil _)))) (MSub.refl _) ?_
    refine W_cond rfl (fun hc6 => ?_) (fun hc6 => ?_)
    · skip
      replace hp := cond_t hc6 hp
      refine W_skip ?_
      refine W_seq ?_
      refine W_block ?_
      refine W_seq ?_
      refine W_region ?_
      refine L_fieldAddr rfl rfl fld75_2 ?_
      refine L_load rfl rfl (RdC.blk (by first | (with_reducible repeat (first | exact List.Mem.head _ | apply List.Mem.tail)); done | (repeat (first | exact List.Mem.head _ | apply List.Mem.tail)))) one73 rfl ?_
      refine L_move rfl rfl ?_
      have ho := hp; clear hp; obtain ⟨u7, hy7, hp⟩ := idx_bind ho; clear ho
      refine L_idxA (X := a0_3) rfl rfl rfl el73 (RdT.old h0.2.2) hy7 ?_
      refine L_load0 rfl rfl (RdT.at (RdT.old h0.2.2) (hy7).2) one9 rfl ?_
      refine L_lenT rfl rfl str9 ?_
      refine L_binV rfl rfl rfl bv_neq ?_
      refine L_nil ?_
      refine W_weaken (l' := [(1, _), (3, _), (39, _)]) (Sub.cons rfl (Sub.cons rfl (Sub.cons rfl (Sub.nil _)))) (MSub.refl _) ?_
      refine W_cond rfl (fun hc8 => ?_) (fun hc8 => ?_)
      · skip
        replace hp := cond_t hc8 hp
        refine W_seq ?_
        refine W_region ?_
        refine L_assign rfl rfl ?_
        refine L_nil ?_
        have ho := hp; clear hp; obtain ⟨a9, hp, hx_a9⟩ := map_any ho; clear ho
        obtain rfl := hx5 _ hx_a9
        obtain rfl := Option.some.inj hp
        refine W_ret ?_
        refine res1 rfl (ResOK.tmp rfl) ⟨rfl, rfl⟩ (MSub.nil _)
      · skip
        replace hp := cond_f hc8 hp
        refine W_skip ?_
        refine W_region ?_
        refine L_move rfl rfl ?_
        refine L_binV rfl rfl rfl bv_add ?_
        refine L_assign rfl rfl ?_
        refine L_nil ?_
        exact ⟨IntKind.wrap .i64 (v5_0 + 1), (Sub.cons rfl (Sub.cons rfl (Sub.nil _))), (Arr.sub (MSub.cons (by first | (with_reducible repeat (first | exact Pick.here _ | apply Pick.there)); done | (repeat (first | exact Pick.here _ | apply Pick.there))) (MSub.nil _))), some_eq hp⟩
    · skip
      replace hp := cond_f hc6 hp
      refine W_exit ?_
      have ho := hp; clear hp; obtain ⟨a10, hp, hx_a10⟩ := map_any ho; clear ho
      obtain rfl := hx5 _ hx_a10
      refine W_seq ?_
      refine W_region ?_
      refine L_assign rfl rfl ?_
      refine L_nil ?_
      obtain rfl := Option.some.inj hp
      refine W_ret ?_
      refine res1 rfl (ResOK.tmp rfl) ⟨rfl, rfl⟩ (MSub.nil _)

noncomputable def s_l15Find (a0 : D_CSet) (a1 : ByteArray) : Option Int :=
  whileP (fun s1 : Int => cond (decide (s1 < (a0.2.length : Int))) (Option.bind (idx a0.2 s1) (fun y3 => cond (decide (y3.1 = a1)) (Option.map .inr (some s1)) (some (.inl (IntKind.wrap .i64 (s1 + 1)))))) (Option.map .inr (some (-1)))) 0

theorem s_l15Find_walk (w : World) (a0 : T_CSet) (a1 : ByteArray) (h0 : GT.rd w [] a0) (r : Int) (hp : s_l15Find (GT.dat a0) a1 = some r) : Spec Tryd.prog 74 [.agg (GT.cells a0).toArray, .string a1].toArray w [] (IsV (.int .i64 r)) := by
  obtain ⟨a0_1, a0_2⟩ := a0
  change Spec _ _ ([Value.agg #[.string a0_1, (TL.hdr a0_2)], .string a1] : List Value).toArray w [] _
  refine Spec.intro Tryd.func74 rfl Tryd.ntmps74 rfl ?_
  unfold s_l15Find at hp
  try dsimp only [dat_pair, dat_int, dat_bool, dat_str, dat_ar] at hp
  refine W_seq ?_
  refine W_region ?_
  refine L_box rfl rfl (fun bk2 => ?_)
  refine L_assign rfl rfl ?_
  refine L_nil ?_
  refine W_seq ?_
  refine W_seq ?_
  refine W_region ?_
  refine L_assign rfl rfl ?_
  refine L_nil ?_
  refine W_block ?_
  refine W_while (σ := Int) GT.dat (fun (v1_0 : Int) => [(5, .int .i64 v1_0)]) (fun (v1_0 : Int) => []) [(1, _), (2, _)] [blk bk2 _ _] 0 hp (Sub.cons rfl (Sub.cons rfl (Sub.cons rfl (Sub.nil _)))) (MSub.cons (by first | (with_reducible repeat (first | exact Pick.here _ | apply Pick.there)); done | (repeat (first | exact Pick.here _ | apply Pick.there))) (MSub.nil _)) ?_
  clear hp
  rintro v1_0 x1 hp hx1
  try dsimp only [dat_pair, dat_int, dat_bool, dat_str, dat_ar] at hp
  refine W_weaken (l' := [(1, _), (2, _), (5, _)]) (Sub.cons rfl (Sub.cons rfl (Sub.cons rfl (Sub.nil _)))) (M' := [_]) (MSub.cons (by first | (with_reducible repeat (first | exact Pick.here _ | apply Pick.there)); done | (repeat (first | exact Pick.here _ | apply Pick.there))) (MSub.nil _)) ?_
  refine W_seq ?_
  refine W_seq ?_
  refine W_region ?_
  refine L_move rfl rfl ?_
  refine L_fieldAddr rfl rfl fld72_1 ?_
  refine L_load rfl rfl (RdC.blk (by first | (with_reducible repeat (first | exact List.Mem.head _ | apply List.Mem.tail)); done | (repeat (first | exact List.Mem.head _ | apply List.Mem.tail)))) one70 rfl ?_
  refine L_lenP (X := a0_2) rfl rfl el70 ?_
  refine L_binV rfl rfl rfl bv_lss ?_
  refine L_nil ?_
  refine W_weaken (l' := [(1, _), (2, _), (5, _), (10, _)]) (Sub.cons rfl (Sub.cons rfl (Sub.cons rfl (Sub.cons rfl (Sub.nil _))))) (MSub.refl _) ?_
  refine W_cond rfl (fun hc2 => ?_) (fun hc2 => ?_)
  · skip
    replace hp := cond_t hc2 hp
    refine W_skip ?_
    refine W_seq ?_
    refine W_block ?_
    refine W_seq ?_
    refine W_region ?_
    refine L_fieldAddr rfl rfl fld72_1 ?_
    refine L_load rfl rfl (RdC.blk (by first | (with_reducible repeat (first | exact List.Mem.head _ | apply List.Mem.tail)); done | (repeat (first | exact List.Mem.head _ | apply List.Mem.tail)))) one70 rfl ?_
    refine L_move rfl rfl ?_
    have ho := hp; clear hp; obtain ⟨u3, hy3, hp⟩ := idx_bind ho; clear ho
    obtain ⟨u3_1, u3_2, u3_3⟩ := u3
    refine L_idxA (X := a0_2) rfl rfl rfl el70 (RdT.old h0.2) hy3 ?_
    refine L_fieldAddr rfl rfl fld75_0 ?_
    refine L_load rfl rfl (RdT.at (RdT.old h0.2) (hy3).2) one9 rfl ?_
    refine L_move rfl rfl ?_
    refine L_binV rfl rfl rfl bv_seql ?_
    refine L_nil ?_
    refine W_weaken (l' := [(1, _), (2, _), (5, _), (20, _)]) (Sub.cons rfl (Sub.cons rfl (Sub.cons rfl (Sub.cons rfl (Sub.nil _))))) (MSub.refl _) ?_
    refine W_cond rfl (fun hc4 => ?_) (fun hc4 => ?_)
    · skip
      replace hp := cond_t hc4 hp
      refine W_seq ?_
      refine W_region ?_
      refine L_move rfl rfl ?_
      refine L_assign rfl rfl ?_
      refine L_nil ?_
      have ho := hp; clear hp; obtain ⟨a5, hp, hx_a5⟩ := map_any ho; clear ho
      obtain rfl := hx1 _ hx_a5
      obtain rfl := Option.some.inj hp
      refine W_ret ?_
      refine res1 rfl (ResOK.tmp rfl) ⟨rfl, rfl⟩ (MSub.nil _)
    · skip
      replace hp := cond_f hc4 hp
      refine W_skip ?_
      refine W_region ?_
      refine L_move rfl rfl ?_
      refine L_binV rfl rfl rfl bv_add ?_
      refine L_assign rfl rfl ?_
      refine L_nil ?_
      exact ⟨IntKind.wrap .i64 (v1_0 + 1), (Sub.cons rfl (Sub.cons rfl (Sub.cons rfl (Sub.nil _)))), (Arr.sub (MSub.cons (by first | (with_reducible repeat (first | exact Pick.here _ | apply Pick.there)); done | (repeat (first | exact Pick.here _ | apply Pick.there))) (MSub.nil _))), some_eq hp⟩
  · skip
    replace hp := cond_f hc2 hp
    refine W_exit ?_
    have ho := hp; clear hp; obtain ⟨a6, hp, hx_a6⟩ := map_any ho; clear ho
    obtain rfl := hx1 _ hx_a6
    refine W_seq ?_
    refine W_region ?_
    refine L_assign rfl rfl ?_
    refine L_nil ?_
    obtain rfl := Option.some.inj hp
    refine W_ret ?_
    refine res1 rfl (ResOK.tmp rfl) ⟨rfl, rfl⟩ (MSub.nil _)

noncomputable def s_CatOk (a0 : D_Catalog) : Option Bool :=
  cond (decide (5 < (a0.length : Int))) (some false) (whileP (fun s2 : Int => cond (decide (s2 < (a0.length : Int))) (Option.bind (idx a0 s2) (fun y4 => Option.bind (s_l4Word y4.1) (fun y5 => gb ((!(!y5)) && (decide (0 < s2))) (idx a0 (IntKind.wrap .i64 (s2 - 1))) (fun y6 => cond (((!y5) || ((decide (0 < s2)) && (!sLt y6.1 y4.1))) || (decide (5 < (y4.2.length : Int)))) (Option.map .inr (some false)) (whileP (fun s9 : Int => cond (decide (s9 < (y4.2.length : Int))) (Option.bind (idx y4.2 s9) (fun y11 => Option.bind (s_l15Snap (y11.1, y11.2.1, y11.2.2)) (fun y12 => gb (!(!y12)) (idx y4.2 s9) (fun y13 => gb (!(!y12)) (s_l15Find (y4.1, y4.2) y13.1) (fun y14 => cond ((!y12) || (!decide (y14 = s9))) (Option.map .inr (Option.map .inr (some false))) (some (.inl (IntKind.wrap .i64 (s9 + 1))))))))) (Option.map .inr (some (.inl (IntKind.wrap .i64 (s2 + 1)))))) 0))))) (Option.map .inr (some true))) 0)

theorem s_CatOk_walk (w : World) (a0 : T_Catalog) (h0 : GT.rd w [] a0) (r : Bool) (hp : s_CatOk (GT.dat a0) = some r) : Spec Tryd.prog 73 [.agg (GT.cells a0).toArray].toArray w [] (IsV (.bool r)) := by
  change Spec _ _ ([Value.agg #[(TL.hdr a0)]] : List Value).toArray w [] _
  refine Spec.intro Tryd.func73 rfl Tryd.ntmps73 rfl ?_
  unfold s_CatOk at hp
  try dsimp only [dat_pair, dat_int, dat_bool, dat_str, dat_ar] at hp
  refine W_seq ?_
  refine W_region ?_
  refine L_box rfl rfl (fun bk1 => ?_)
  refine L_assign rfl rfl ?_
  refine L_nil ?_
  refine W_seq ?_
  refine W_seq ?_
  refine W_region ?_
  refine L_fieldAddr rfl rfl fld53_0 ?_
  refine L_load rfl rfl (RdC.blk (by first | (with_reducible repeat (first | exact List.Mem.head _ | apply List.Mem.tail)); done | (repeat (first | exact List.Mem.head _ | apply List.Mem.tail)))) one51 rfl ?_
  refine L_lenP (X := a0) rfl rfl el51 ?_
  refine L_binV rfl rfl rfl bv_gtr ?_
  refine L_nil ?_
  refine W_weaken (l' := [(1, _), (9, _)]) (Sub.cons rfl (Sub.cons rfl (Sub.nil _))) (MSub.refl _) ?_
  refine W_cond rfl (fun hc1 => ?_) (fun hc1 => ?_)
  · skip
    replace hp := cond_t hc1 hp
    refine W_seq ?_
    refine W_region ?_
    refine L_assign rfl rfl ?_
    refine L_nil ?_
    obtain rfl := Option.some.inj hp
    refine W_ret ?_
    refine res1 rfl (ResOK.tmp rfl) ⟨rfl, rfl⟩ (MSub.nil _)
  · skip
    replace hp := cond_f hc1 hp
    refine W_skip ?_
    refine W_seq ?_
    refine W_seq ?_
    refine W_region ?_
    refine L_assign rfl rfl ?_
    refine L_nil ?_
    refine W_block ?_
    refine W_while (σ := Int) GT.dat (fun (v2_0 : Int) => [(3, .int .i64 v2_0)]) (fun (v2_0 : Int) => []) [(1, _)] [blk bk1 _ _] 0 hp (Sub.cons rfl (Sub.cons rfl (Sub.nil _))) (MSub.cons (by first | (with_reducible repeat (first | exact Pick.here _ | apply Pick.there)); done | (repeat (first | exact Pick.here _ | apply Pick.there))) (MSub.nil _)) ?_
    clear hp
    rintro v2_0 x2 hp hx2
    try dsimp only [dat_pair, dat_int, dat_bool, dat_str, dat_ar] at hp
    refine W_weaken (l' := [(1, _), (3, _)]) (Sub.cons rfl (Sub.cons rfl (Sub.nil _))) (M' := [_]) (MSub.cons (by first | (with_reducible repeat (first | exact Pick.here _ | apply Pick.there)); done | (repeat (first | exact Pick.here _ | apply Pick.there))) (MSub.nil _)) ?_
    refine W_seq ?_
    refine W_seq ?_
    refine W_region ?_
    refine L_move rfl rfl ?_
    refine L_fieldAddr rfl rfl fld53_0 ?_
    refine L_load rfl rfl (RdC.blk (by first | (with_reducible repeat (first | exact List.Mem.head _ | apply List.Mem.tail)); done | (repeat (first | exact List.Mem.head _ | apply List.Mem.tail)))) one51 rfl ?_
    refine L_lenP (X := a0) rfl rfl el51 ?_
    refine L_binV rfl rfl rfl bv_lss ?_
    refine L_nil ?_
    refine W_weaken (l' := [(1, _), (3, _), (14, _)]) (Sub.cons rfl (Sub.cons rfl (Sub.cons rfl (Sub.nil _)))) (MSub.refl _) ?_
    refine W_cond rfl (fun hc3 => ?_) (fun hc3 => ?_)
    · skip
      replace hp := cond_t hc3 hp
      refine W_skip ?_
      refine W_seq ?_
      refine W_block ?_
      refine W_seq ?_
      refine W_region ?_
      refine L_fieldAddr rfl rfl fld53_0 ?_
      refine L_load rfl rfl (RdC.blk (by first | (with_reducible repeat (first | exact List.Mem.head _ | apply List.Mem.tail)); done | (repeat (first | exact List.Mem.head _ | apply List.Mem.tail)))) one51 rfl ?_
      refine L_move rfl rfl ?_
      have ho := hp; clear hp; obtain ⟨u4, hy4, hp⟩ := idx_bind ho; clear ho
      obtain ⟨u4_1, u4_2⟩ := u4
      refine L_idxA (X := a0) rfl rfl rfl el51 (RdT.old h0) hy4 ?_
      refine L_loadW rfl rfl (RdT.at (RdT.old h0) (hy4).2) (by exact agg72) ?_
      refine L_alloc rfl zero72 (fun bk4 => ?_)
      refine L_storeW rfl rfl (by first | (with_reducible repeat (first | exact Pick.here _ | apply Pick.there)); done | (repeat (first | exact Pick.here _ | apply Pick.there))) (by exact agg72) (by rfl) (by first | exact allOne rfl | exact fun v hv => GT.one _ v hv | (simp [Value.oneCell', TL.hdr, Value.cells]; done)) ?_
      refine L_nil ?_
      refine W_seq ?_
      refine W_seq ?_
      have ho := hp; clear hp; obtain ⟨y5, hy5, hp⟩ := bind_any ho; clear ho
      have ho := hp; clear hp; obtain ⟨u6, hy6, hp⟩ := idx_gb ho; clear ho
      obtain ⟨u6_1, u6_2⟩ := u6
      refine W_D0 [47] mix (by kernel_rfl) rfl ?_
      refine D_fieldAddr GC.none (OpV.t rfl) fld72_0 ?_
      refine D_load GC.none (OpV.t rfl) (fun hg => RdC.blk (by first | (with_reducible repeat (first | exact List.Mem.head _ | apply List.Mem.tail)); done | (repeat (first | exact List.Mem.head _ | apply List.Mem.tail)))) one9 rfl ?_
      refine D_callX GC.none fn109 (OpVs.cons (OpV.t rfl) (OpVs.nil)) (by exact fun hg w F hF hM => s_l4Word_walk w u4_1  _ hy5) ?_
      refine D_not GC.none (OpV.t rfl) ?_
      refine D_move GC.none (OpV.t rfl) ?_
      refine D_move (GC.some rfl rfl) (OpV.t rfl) ?_
      refine D_bin (GC.some rfl rfl) (OpV.s rfl) OpV.c (fun hg => bv_gtr) ?_
      refine D_move (GC.some rfl rfl) (OpV.s rfl) ?_
      refine D_fieldAddr (GC.some rfl rfl) (OpV.t rfl) fld53_0 ?_
      refine D_load (GC.some rfl rfl) (OpV.s rfl) (fun hg => RdC.blk (by first | (with_reducible repeat (first | exact List.Mem.head _ | apply List.Mem.tail)); done | (repeat (first | exact List.Mem.head _ | apply List.Mem.tail)))) one51 rfl ?_
      refine D_move (GC.some rfl rfl) (OpV.t rfl) ?_
      refine D_bin (GC.some rfl rfl) (OpV.s rfl) OpV.c (fun hg => bv_sub) ?_
      refine D_idxA (X := a0) (GC.some rfl rfl) (OpV.s rfl) (OpV.s rfl) el51 (RdT.old h0) (fun hg => hy6 (gand (gnot hg.1.2) hg.2)) ?_
      refine D_fieldAddr (GC.some rfl rfl) (OpV.s rfl) fld72_0 ?_
      refine D_load (GC.some rfl rfl) (OpV.s rfl) (fun hg => RdT.at (RdT.old h0) (hy6 (gand (gnot hg.1.2) hg.2)).2) one9 rfl ?_
      refine D_fieldAddr (GC.some rfl rfl) (OpV.t rfl) fld72_0 ?_
      refine D_load (GC.some rfl rfl) (OpV.s rfl) (fun hg => RdC.blk (by first | (with_reducible repeat (first | exact List.Mem.head _ | apply List.Mem.tail)); done | (repeat (first | exact List.Mem.head _ | apply List.Mem.tail)))) one9 rfl ?_
      refine D_bin (GC.some rfl rfl) (OpV.s rfl) (OpV.s rfl) (fun hg => bv_sgeq) ?_
      refine D_and (cy := _) (GC.some rfl rfl) (OpV.s rfl) (OpV.s rfl) (fun h hb => ⟨h, hb⟩) ?_
      refine D_or (cy := _) GC.none (OpV.t rfl) (OpV.s rfl) (fun h hb => ⟨h, hb⟩) ?_
      refine D_move GC.none (OpV.t rfl) ?_
      refine D_fieldAddr (GC.some rfl rfl) (OpV.t rfl) fld72_1 ?_
      refine D_load (GC.some rfl rfl) (OpV.s rfl) (fun hg => RdC.blk (by first | (with_reducible repeat (first | exact List.Mem.head _ | apply List.Mem.tail)); done | (repeat (first | exact List.Mem.head _ | apply List.Mem.tail)))) one70 rfl ?_
      refine D_lenP (X := u4_2) (GC.some rfl rfl) (OpV.s rfl) el70 ?_
      refine D_bin (GC.some rfl rfl) (OpV.s rfl) OpV.c (fun hg => bv_gtr) ?_
      refine D_or (cy := _) GC.none (OpV.t rfl) (OpV.s rfl) (fun h hb => ⟨h, hb⟩) ?_
      refine DV_nil ?_
      refine Give_is rfl rfl ?_
      refine Give_drop rfl ?_
      refine Give_drop rfl ?_
      refine Give_drop rfl ?_
      refine Give_drop rfl ?_
      refine Give_drop rfl ?_
      refine Give_drop rfl ?_
      refine Give_drop rfl ?_
      refine Give_drop rfl ?_
      refine Give_drop rfl ?_
      refine Give_drop rfl ?_
      refine Give_drop rfl ?_
      refine Give_drop rfl ?_
      refine Give_drop rfl ?_
      refine Give_drop rfl ?_
      refine Give_drop rfl ?_
      refine Give_drop rfl ?_
      refine Give_drop rfl ?_
      refine Give_drop rfl ?_
      refine Give_drop rfl ?_
      refine Give_drop rfl ?_
      refine Give_drop rfl ?_
      refine Give_drop rfl ?_
      refine Give_drop rfl ?_
      refine Give_drop rfl ?_
      refine Give_drop rfl ?_
      refine Give_nil ?_
      refine W_weaken (l' := [(1, _), (3, _), (4, _), (47, _)]) (Sub.cons rfl (Sub.cons rfl (Sub.cons rfl (Sub.cons rfl (Sub.nil _))))) (MSub.refl _) ?_
      refine W_cond rfl (fun hc7 => ?_) (fun hc7 => ?_)
      · skip
        replace hp := cond_t hc7 hp
        refine W_seq ?_
        refine W_region ?_
        refine L_assign rfl rfl ?_
        refine L_nil ?_
        have ho := hp; clear hp; obtain ⟨a8, hp, hx_a8⟩ := map_any ho; clear ho
        obtain rfl := hx2 _ hx_a8
        obtain rfl := Option.some.inj hp
        refine W_ret ?_
        refine res1 rfl (ResOK.tmp rfl) ⟨rfl, rfl⟩ (MSub.nil _)
      · skip
        replace hp := cond_f hc7 hp
        refine W_skip ?_
        refine W_seq ?_
        refine W_region ?_
        refine L_assign rfl rfl ?_
        refine L_nil ?_
        refine W_block ?_
        refine W_while (σ := Int) GT.dat (fun (v9_0 : Int) => [(5, .int .i64 v9_0)]) (fun (v9_0 : Int) => []) [(1, _), (3, _), (4, _)] [blk bk1 _ _, blk bk4 _ _] 0 hp (Sub.cons rfl (Sub.cons rfl (Sub.cons rfl (Sub.cons rfl (Sub.nil _))))) (MSub.cons (by first | (with_reducible repeat (first | exact Pick.here _ | apply Pick.there)); done | (repeat (first | exact Pick.here _ | apply Pick.there))) (MSub.cons (by first | (with_reducible repeat (first | exact Pick.here _ | apply Pick.there)); done | (repeat (first | exact Pick.here _ | apply Pick.there))) (MSub.nil _))) ?_
        clear hp
        rintro v9_0 x9 hp hx9
        try dsimp only [dat_pair, dat_int, dat_bool, dat_str, dat_ar] at hp
        refine W_weaken (l' := [(1, _), (3, _), (4, _), (5, _)]) (Sub.cons rfl (Sub.cons rfl (Sub.cons rfl (Sub.cons rfl (Sub.nil _))))) (M' := [_, _]) (MSub.cons (by first | (with_reducible repeat (first | exact Pick.here _ | apply Pick.there)); done | (repeat (first | exact Pick.here _ | apply Pick.there))) (MSub.cons (by first | (with_reducible repeat (first | exact Pick.here _ | apply Pick.there)); done | (repeat (first | exact Pick.here _ | apply Pick.there))) (MSub.nil _))) ?_
        refine W_seq ?_
        refine W_seq ?_
        refine W_region ?_
        refine L_move rfl rfl ?_
        refine L_fieldAddr rfl rfl fld72_1 ?_
        refine L_load rfl rfl (RdC.blk (by first | (with_reducible repeat (first | exact List.Mem.head _ | apply List.Mem.tail)); done | (repeat (first | exact List.Mem.head _ | apply List.Mem.tail)))) one70 rfl ?_
        refine L_lenP (X := u4_2) rfl rfl el70 ?_
        refine L_binV rfl rfl rfl bv_lss ?_
        refine L_nil ?_
        refine W_weaken (l' := [(1, _), (3, _), (4, _), (5, _), (52, _)]) (Sub.cons rfl (Sub.cons rfl (Sub.cons rfl (Sub.cons rfl (Sub.cons rfl (Sub.nil _)))))) (MSub.refl _) ?_
        refine W_cond rfl (fun hc10 => ?_) (fun hc10 => ?_)
        · skip
          replace hp := cond_t hc10 hp
          refine W_skip ?_
          refine W_seq ?_
          refine W_block ?_
          refine W_seq ?_
          have ho := hp; clear hp; obtain ⟨u11, hy11, hp⟩ := idx_bind ho; clear ho
          obtain ⟨u11_1, u11_2, u11_3⟩ := u11
          have ho := hp; clear hp; obtain ⟨y12, hy12, hp⟩ := bind_any ho; clear ho
          have ho := hp; clear hp; obtain ⟨u13, hy13, hp⟩ := idx_gb ho; clear ho
          obtain ⟨u13_1, u13_2, u13_3⟩ := u13
          have ho := hp; clear hp; obtain ⟨y14, hy14, hp⟩ := gb_any ho; clear ho
          refine W_D0 [73] mix (by kernel_rfl) rfl ?_
          refine D_fieldAddr GC.none (OpV.t rfl) fld72_1 ?_
          refine D_load GC.none (OpV.t rfl) (fun hg => RdC.blk (by first | (with_reducible repeat (first | exact List.Mem.head _ | apply List.Mem.tail)); done | (repeat (first | exact List.Mem.head _ | apply List.Mem.tail)))) one70 rfl ?_
          refine D_move GC.none (OpV.t rfl) ?_
          refine D_idxA (X := u4_2) GC.none (OpV.t rfl) (OpV.t rfl) el70 (RdT.snd (RdT.of (RdT.old h0) (hy4).2)) (fun _ => hy11) ?_
          refine D_loadW GC.none (OpV.t rfl) (fun hg => RdT.at (RdT.snd (RdT.of (RdT.old h0) (hy4).2)) (hy11).2) (by exact agg75) ?_
          refine D_callX GC.none fn110 (OpVs.cons (OpV.t rfl) (OpVs.nil)) (by exact fun hg w F hF hM => s_l15Snap_walk w (u11_1, u11_2, u11_3) (RdT.nowS (RdT.pair RdT.str (RdT.pair RdT.str (RdT.snd (RdT.snd (RdT.of (RdT.snd (RdT.of (RdT.old h0) (hy4).2)) (hy11).2))))) hF hM) _ hy12) ?_
          refine D_not GC.none (OpV.t rfl) ?_
          refine D_move GC.none (OpV.t rfl) ?_
          refine D_loadW (GC.some rfl rfl) (OpV.t rfl) (fun hg => RdC.blk (by first | (with_reducible repeat (first | exact List.Mem.head _ | apply List.Mem.tail)); done | (repeat (first | exact List.Mem.head _ | apply List.Mem.tail)))) (by exact agg72) ?_
          refine D_fieldAddr (GC.some rfl rfl) (OpV.t rfl) fld72_1 ?_
          refine D_load (GC.some rfl rfl) (OpV.s rfl) (fun hg => RdC.blk (by first | (with_reducible repeat (first | exact List.Mem.head _ | apply List.Mem.tail)); done | (repeat (first | exact List.Mem.head _ | apply List.Mem.tail)))) one70 rfl ?_
          refine D_move (GC.some rfl rfl) (OpV.t rfl) ?_
          refine D_idxA (X := u4_2) (GC.some rfl rfl) (OpV.s rfl) (OpV.s rfl) el70 (RdT.snd (RdT.of (RdT.old h0) (hy4).2)) (fun hg => hy13 (gnot hg.2)) ?_
          refine D_fieldAddr (GC.some rfl rfl) (OpV.s rfl) fld75_0 ?_
          refine D_load (GC.some rfl rfl) (OpV.s rfl) (fun hg => RdT.at (RdT.snd (RdT.of (RdT.old h0) (hy4).2)) (hy13 (gnot hg.2)).2) one9 rfl ?_
          refine D_callX (GC.some rfl rfl) fn74 (OpVs.cons (OpV.s rfl) (OpVs.cons (OpV.s rfl) (OpVs.nil))) (by exact fun hg w F hF hM => s_l15Find_walk w (u4_1, u4_2) u13_1 (RdT.nowS (RdT.pair RdT.str (RdT.snd (RdT.of (RdT.old h0) (hy4).2))) hF hM) _ (hy14 (gnot hg.2))) ?_
          refine D_move (GC.some rfl rfl) (OpV.t rfl) ?_
          refine D_bin (GC.some rfl rfl) (OpV.s rfl) (OpV.s rfl) (fun hg => bv_neq) ?_
          refine D_or (cy := _) GC.none (OpV.t rfl) (OpV.s rfl) (fun h hb => ⟨h, hb⟩) ?_
          refine DV_nil ?_
          refine Give_is rfl rfl ?_
          refine Give_drop rfl ?_
          refine Give_drop rfl ?_
          refine Give_drop rfl ?_
          refine Give_drop rfl ?_
          refine Give_drop rfl ?_
          refine Give_drop rfl ?_
          refine Give_drop rfl ?_
          refine Give_drop rfl ?_
          refine Give_drop rfl ?_
          refine Give_drop rfl ?_
          refine Give_drop rfl ?_
          refine Give_drop rfl ?_
          refine Give_drop rfl ?_
          refine Give_drop rfl ?_
          refine Give_drop rfl ?_
          refine Give_drop rfl ?_
          refine Give_drop rfl ?_
          refine Give_drop rfl ?_
          refine Give_nil ?_
          refine W_weaken (l' := [(1, _), (3, _), (4, _), (5, _), (73, _)]) (Sub.cons rfl (Sub.cons rfl (Sub.cons rfl (Sub.cons rfl (Sub.cons rfl (Sub.nil _)))))) (MSub.refl _) ?_
          refine W_cond rfl (fun hc15 => ?_) (fun hc15 => ?_)
          · skip
            replace hp := cond_t hc15 hp
            refine W_seq ?_
            refine W_region ?_
            refine L_assign rfl rfl ?_
            refine L_nil ?_
            have ho := hp; clear hp; obtain ⟨a16, hp, hx_a16⟩ := map_any ho; clear ho
            obtain rfl := hx9 _ hx_a16
            have ho := hp; clear hp; obtain ⟨a17, hp, hx_a17⟩ := map_any ho; clear ho
            obtain rfl := hx2 _ hx_a17
            obtain rfl := Option.some.inj hp
            refine W_ret ?_
            refine res1 rfl (ResOK.tmp rfl) ⟨rfl, rfl⟩ (MSub.nil _)
          · skip
            replace hp := cond_f hc15 hp
            refine W_skip ?_
            refine W_region ?_
            refine L_move rfl rfl ?_
            refine L_binV rfl rfl rfl bv_add ?_
            refine L_assign rfl rfl ?_
            refine L_nil ?_
            exact ⟨IntKind.wrap .i64 (v9_0 + 1), (Sub.cons rfl (Sub.cons rfl (Sub.cons rfl (Sub.cons rfl (Sub.nil _))))), (Arr.sub (MSub.cons (by first | (with_reducible repeat (first | exact Pick.here _ | apply Pick.there)); done | (repeat (first | exact Pick.here _ | apply Pick.there))) (MSub.cons (by first | (with_reducible repeat (first | exact Pick.here _ | apply Pick.there)); done | (repeat (first | exact Pick.here _ | apply Pick.there))) (MSub.nil _)))), some_eq hp⟩
        · skip
          replace hp := cond_f hc10 hp
          refine W_exit ?_
          have ho := hp; clear hp; obtain ⟨a18, hp, hx_a18⟩ := map_any ho; clear ho
          obtain rfl := hx9 _ hx_a18
          refine W_region ?_
          refine L_move rfl rfl ?_
          refine L_binV rfl rfl rfl bv_add ?_
          refine L_assign rfl rfl ?_
          refine L_nil ?_
          exact ⟨IntKind.wrap .i64 (v2_0 + 1), (Sub.cons rfl (Sub.cons rfl (Sub.nil _))), (Arr.sub (MSub.cons (by first | (with_reducible repeat (first | exact Pick.here _ | apply Pick.there)); done | (repeat (first | exact Pick.here _ | apply Pick.there))) (MSub.nil _))), some_eq hp⟩
    · skip
      replace hp := cond_f hc3 hp
      refine W_exit ?_
      have ho := hp; clear hp; obtain ⟨a19, hp, hx_a19⟩ := map_any ho; clear ho
      obtain rfl := hx2 _ hx_a19
      refine W_seq ?_
      refine W_region ?_
      refine L_assign rfl rfl ?_
      refine L_nil ?_
      obtain rfl := Option.some.inj hp
      refine W_ret ?_
      refine res1 rfl (ResOK.tmp rfl) ⟨rfl, rfl⟩ (MSub.nil _)

noncomputable def i_CSet_snap_c1 (a0 : D_CSnap) (c0 : ByteArray) : Option Bool :=
  some (decide (a0.1 = c0))

theorem i_CSet_snap_c1_walk (w : World) (a0 : T_CSnap) (b0 : Nat) (c0 : ByteArray) (h0 : GT.rd w [] a0) (hb0 : Cells w [] b0 0 (GT.cells c0)) (hc0 : GT.rd w [] c0) (r : Bool) (hp : i_CSet_snap_c1 (GT.dat a0) c0 = some r) : Spec Tryd.prog 116 ([(.agg (GT.cells a0).toArray : Value)] ++ [Value.pointer (some ⟨b0, 0, none⟩)]).toArray w [] (IsV (.bool r)) := by
  obtain ⟨a0_1, a0_2, a0_3⟩ := a0
  change Spec _ _ ([Value.agg #[.string a0_1, .string a0_2, (TL.hdr a0_3)], Value.pointer (some ⟨b0, 0, none⟩)] : List Value).toArray w [] _
  refine Spec.intro Tryd.func116 rfl Tryd.ntmps116 rfl ?_
  unfold i_CSet_snap_c1 at hp
  try dsimp only [dat_pair, dat_int, dat_bool, dat_str, dat_ar] at hp
  refine W_seq ?_
  refine W_region ?_
  refine L_box rfl rfl (fun bk2 => ?_)
  refine L_assign rfl rfl ?_
  refine L_nil ?_
  refine W_seq ?_
  refine W_region ?_
  refine L_fieldAddr rfl rfl fld75_0 ?_
  refine L_load rfl rfl (RdC.blk (by first | (with_reducible repeat (first | exact List.Mem.head _ | apply List.Mem.tail)); done | (repeat (first | exact List.Mem.head _ | apply List.Mem.tail)))) one9 rfl ?_
  refine L_load0 rfl rfl (RdC.old hb0) one9 rfl ?_
  refine L_binV rfl rfl rfl bv_seql ?_
  refine L_assign rfl rfl ?_
  refine L_nil ?_
  obtain rfl := Option.some.inj hp
  refine W_ret ?_
  refine res1 rfl (ResOK.tmp rfl) ⟨rfl, rfl⟩ (MSub.nil _)

noncomputable def sl_IndexFunc_implCSnapimplCSnap (a0 : List D_CSnap) (a1 : D_CSnap → Option Bool) : Option Int :=
  whileP (fun s1 : Int => cond (decide (s1 < (a0.length : Int))) (Option.bind (idx a0 s1) (fun y3 => Option.bind (a1 (y3.1, y3.2.1, y3.2.2)) (fun y4 => cond y4 (Option.map .inr (some s1)) (some (.inl (IntKind.wrap .i64 (s1 + 1))))))) (Option.map .inr (some (-1)))) 0

theorem sl_IndexFunc_implCSnapimplCSnap_walk (w : World) (a0 : TL T_CSnap) (f1 : Nat) (cs1 : List Value) (a1 : D_CSnap → Option Bool) (h0 : GT.rd w [] a0) (hf1 : IsFn Tryd.prog f1) (hk1 : ∀ (w' : World) (F : List HP) (u0 : T_CSnap) (v : Bool), Holds w [] F w' → GT.rd w' [] u0 → a1 (GT.dat u0) = some v → Spec Tryd.prog f1 ([Value.agg (GT.cells u0).toArray] ++ cs1).toArray w' [] (IsV (.bool v))) (r : Int) (hp : sl_IndexFunc_implCSnapimplCSnap (GT.dat a0) a1 = some r) : Spec Tryd.prog 115 [(TL.hdr a0), .func (.func f1) #[] cs1.toArray].toArray w [] (IsV (.int .i64 r)) := by
  refine Spec.intro Tryd.func115 rfl Tryd.ntmps115 rfl ?_
  unfold sl_IndexFunc_implCSnapimplCSnap at hp
  try dsimp only [dat_pair, dat_int, dat_bool, dat_str, dat_ar] at hp
  refine W_seq ?_
  refine W_region ?_
  refine L_assign rfl rfl ?_
  refine L_nil ?_
  refine W_seq ?_
  refine W_seq ?_
  refine W_region ?_
  refine L_move rfl rfl ?_
  refine L_lenP (X := a0) rfl rfl el70 ?_
  refine L_move rfl rfl ?_
  refine L_nil ?_
  refine W_block ?_
  refine W_while (σ := Int) GT.dat (fun (v1_0 : Int) => [(8, .int .i64 v1_0)]) (fun (v1_0 : Int) => []) [(0, _), (1, _), (7, _)] [] 0 hp (Sub.cons rfl (Sub.cons rfl (Sub.cons rfl (Sub.cons rfl (Sub.nil _))))) (MSub.nil _) ?_
  clear hp
  rintro v1_0 x1 hp hx1
  try dsimp only [dat_pair, dat_int, dat_bool, dat_str, dat_ar] at hp
  refine W_weaken (l' := [(0, _), (1, _), (7, _), (8, _)]) (Sub.cons rfl (Sub.cons rfl (Sub.cons rfl (Sub.cons rfl (Sub.nil _))))) (M' := []) (MSub.nil _) ?_
  refine W_seq ?_
  refine W_region ?_
  refine L_binV rfl rfl rfl bv_lss ?_
  refine L_nil ?_
  refine W_seq ?_
  refine W_weaken (l' := [(0, _), (1, _), (7, _), (8, _), (9, _)]) (Sub.cons rfl (Sub.cons rfl (Sub.cons rfl (Sub.cons rfl (Sub.cons rfl (Sub.nil _)))))) (MSub.refl _) ?_
  refine W_cond rfl (fun hc2 => ?_) (fun hc2 => ?_)
  · skip
    replace hp := cond_t hc2 hp
    refine W_skip ?_
    refine W_seq ?_
    refine W_block ?_
    refine W_seq ?_
    refine W_region ?_
    refine L_move rfl rfl ?_
    refine L_assign rfl rfl ?_
    refine L_nil ?_
    refine W_seq ?_
    refine W_region ?_
    refine L_move rfl rfl ?_
    refine L_move rfl rfl ?_
    refine L_move rfl rfl ?_
    have ho := hp; clear hp; obtain ⟨u3, hy3, hp⟩ := idx_bind ho; clear ho
    obtain ⟨u3_1, u3_2, u3_3⟩ := u3
    refine L_idxA (X := a0) rfl rfl rfl el70 (RdT.old h0) hy3 ?_
    refine L_loadW rfl rfl (RdT.at (RdT.old h0) (hy3).2) (by exact agg75) ?_
    have ho := hp; clear hp; obtain ⟨y4, hy4, hp⟩ := bind_any ho; clear ho
    refine L_callVX rfl rfl hf1 rfl (by exact fun w hw => hk1 w _ (u3_1, u3_2, u3_3) y4 hw (RdT.now (RdT.pair RdT.str (RdT.pair RdT.str (RdT.snd (RdT.snd (RdT.of (RdT.old h0) (hy3).2))))) hw) hy4) ?_
    refine L_nil ?_
    refine W_weaken (l' := [(0, _), (1, _), (5, _), (7, _), (8, _), (16, _)]) (Sub.cons rfl (Sub.cons rfl (Sub.cons rfl (Sub.cons rfl (Sub.cons rfl (Sub.cons rfl (Sub.nil _))))))) (MSub.refl _) ?_
    refine W_cond rfl (fun hc5 => ?_) (fun hc5 => ?_)
    · skip
      replace hp := cond_t hc5 hp
      refine W_seq ?_
      refine W_region ?_
      refine L_move rfl rfl ?_
      refine L_assign rfl rfl ?_
      refine L_nil ?_
      have ho := hp; clear hp; obtain ⟨a6, hp, hx_a6⟩ := map_any ho; clear ho
      obtain rfl := hx1 _ hx_a6
      obtain rfl := Option.some.inj hp
      refine W_ret ?_
      refine res1 rfl (ResOK.tmp rfl) ⟨rfl, rfl⟩ (MSub.nil _)
    · skip
      replace hp := cond_f hc5 hp
      refine W_skip ?_
      refine W_region ?_
      refine L_binV rfl rfl rfl bv_add ?_
      refine L_move rfl rfl ?_
      refine L_nil ?_
      exact ⟨IntKind.wrap .i64 (v1_0 + 1), (Sub.cons rfl (Sub.cons rfl (Sub.cons rfl (Sub.cons rfl (Sub.nil _))))), (Arr.sub (MSub.nil _)), some_eq hp⟩
  · skip
    replace hp := cond_f hc2 hp
    refine W_exit ?_
    have ho := hp; clear hp; obtain ⟨a7, hp, hx_a7⟩ := map_any ho; clear ho
    obtain rfl := hx1 _ hx_a7
    refine W_seq ?_
    refine W_region ?_
    refine L_assign rfl rfl ?_
    refine L_nil ?_
    obtain rfl := Option.some.inj hp
    refine W_ret ?_
    refine res1 rfl (ResOK.tmp rfl) ⟨rfl, rfl⟩ (MSub.nil _)

noncomputable def i_CSet_snap (a0 : D_CSet) (a1 : ByteArray) : Option Int :=
  Option.bind (sl_IndexFunc_implCSnapimplCSnap a0.2 (fun z0 => i_CSet_snap_c1 z0 a1)) (fun y1 => some y1)

theorem i_CSet_snap_walk (w : World) (a0 : T_CSet) (a1 : ByteArray) (h0 : GT.rd w [] a0) (r : Int) (hp : i_CSet_snap (GT.dat a0) a1 = some r) : Spec Tryd.prog 79 [.agg (GT.cells a0).toArray, .string a1].toArray w [] (IsV (.int .i64 r)) := by
  obtain ⟨a0_1, a0_2⟩ := a0
  change Spec _ _ ([Value.agg #[.string a0_1, (TL.hdr a0_2)], .string a1] : List Value).toArray w [] _
  refine Spec.intro Tryd.func79 rfl Tryd.ntmps79 rfl ?_
  unfold i_CSet_snap at hp
  try dsimp only [dat_pair, dat_int, dat_bool, dat_str, dat_ar] at hp
  refine W_seq ?_
  refine W_region ?_
  refine L_box rfl rfl (fun bk2 => ?_)
  refine L_box rfl rfl (fun bk3 => ?_)
  refine L_assign rfl rfl ?_
  refine L_nil ?_
  refine W_seq ?_
  refine W_region ?_
  refine L_fieldAddr rfl rfl fld72_1 ?_
  refine L_load rfl rfl (RdC.blk (by first | (with_reducible repeat (first | exact List.Mem.head _ | apply List.Mem.tail)); done | (repeat (first | exact List.Mem.head _ | apply List.Mem.tail)))) one70 rfl ?_
  refine L_makeFunc (fs := []) (cs := [.tmp 3]) rfl rfl rfl ?_
  have ho := hp; clear hp; obtain ⟨y1, hy1, hp⟩ := bind_any ho; clear ho
  refine L_callX rfl fn115 rfl (by exact fun w hw => sl_IndexFunc_implCSnapimplCSnap_walk w a0_2 116 [Value.pointer (some ⟨bk3, 0, none⟩)] (fun z0 => i_CSet_snap_c1 z0 a1) (RdT.now (RdT.old h0.2) hw) fn116 (fun w' F u0 v hF hu0 hv => i_CSet_snap_c1_walk w' u0 bk3 a1 hu0 ((cells_of_blk (by first | (with_reducible repeat (first | exact List.Mem.head _ | apply List.Mem.tail)); done | (repeat (first | exact List.Mem.head _ | apply List.Mem.tail))) hw.sees).carry hF) (rd_carry (RdT.now RdT.str hw) hF) v hv) _ hy1) ?_
  refine L_assign rfl rfl ?_
  refine L_nil ?_
  obtain rfl := Option.some.inj hp
  refine W_ret ?_
  refine res1 rfl (ResOK.tmp rfl) ⟨rfl, rfl⟩ (MSub.nil _)

noncomputable def i_setOk (a0 : D_CSet) : Option Bool :=
  whileP (fun s1 : Int => cond (decide (s1 < (a0.2.length : Int))) (Option.bind (idx a0.2 s1) (fun y3 => Option.bind (i_isWord y3.1) (fun y4 => gb ((!(!y4)) && (!decide (y3.2.1 = ByteArray.empty))) (i_isWord y3.2.1) (fun y5 => gb (!((!y4) || ((!decide (y3.2.1 = ByteArray.empty)) && (!y5)))) (i_within (y3.2.2.length : Int) 1 4) (fun y6 => gb (!(((!y4) || ((!decide (y3.2.1 = ByteArray.empty)) && (!y5))) || (!y6))) (i_areChunks y3.2.2) (fun y7 => gb (!((((!y4) || ((!decide (y3.2.1 = ByteArray.empty)) && (!y5))) || (!y6)) || (!y7))) (i_CSet_snap (a0.1, a0.2) y3.1) (fun y8 => cond (((((!y4) || ((!decide (y3.2.1 = ByteArray.empty)) && (!y5))) || (!y6)) || (!y7)) || (!decide (y8 = s1))) (Option.map .inr (some false)) (some (.inl (IntKind.wrap .i64 (s1 + 1))))))))))) (Option.map .inr (Option.bind (i_isWord a0.1) (fun y12 => some (y12 && (decide ((a0.2.length : Int) ≤ 5))))))) 0

theorem i_setOk_walk (w : World) (a0 : T_CSet) (h0 : GT.rd w [] a0) (r : Bool) (hp : i_setOk (GT.dat a0) = some r) : Spec Tryd.prog 114 [.agg (GT.cells a0).toArray].toArray w [] (IsV (.bool r)) := by
  obtain ⟨a0_1, a0_2⟩ := a0
  change Spec _ _ ([Value.agg #[.string a0_1, (TL.hdr a0_2)]] : List Value).toArray w [] _
  refine Spec.intro Tryd.func114 rfl Tryd.ntmps114 rfl ?_
  unfold i_setOk at hp
  try dsimp only [dat_pair, dat_int, dat_bool, dat_str, dat_ar] at hp
  refine W_seq ?_
  refine W_region ?_
  refine L_box rfl rfl (fun bk1 => ?_)
  refine L_assign rfl rfl ?_
  refine L_nil ?_
  refine W_seq ?_
  refine W_seq ?_
  refine W_region ?_
  refine L_fieldAddr rfl rfl fld72_1 ?_
  refine L_load rfl rfl (RdC.blk (by first | (with_reducible repeat (first | exact List.Mem.head _ | apply List.Mem.tail)); done | (repeat (first | exact List.Mem.head _ | apply List.Mem.tail)))) one70 rfl ?_
  refine L_lenP (X := a0_2) rfl rfl el70 ?_
  refine L_move rfl rfl ?_
  refine L_nil ?_
  refine W_block ?_
  refine W_while (σ := Int) GT.dat (fun (v1_0 : Int) => [(8, .int .i64 v1_0)]) (fun (v1_0 : Int) => []) [(1, _), (6, _), (7, _)] [blk bk1 _ _] 0 hp (Sub.cons rfl (Sub.cons rfl (Sub.cons rfl (Sub.cons rfl (Sub.nil _))))) (MSub.cons (by first | (with_reducible repeat (first | exact Pick.here _ | apply Pick.there)); done | (repeat (first | exact Pick.here _ | apply Pick.there))) (MSub.nil _)) ?_
  clear hp
  rintro v1_0 x1 hp hx1
  try dsimp only [dat_pair, dat_int, dat_bool, dat_str, dat_ar] at hp
  refine W_weaken (l' := [(1, _), (6, _), (7, _), (8, _)]) (Sub.cons rfl (Sub.cons rfl (Sub.cons rfl (Sub.cons rfl (Sub.nil _))))) (M' := [_]) (MSub.cons (by first | (with_reducible repeat (first | exact Pick.here _ | apply Pick.there)); done | (repeat (first | exact Pick.here _ | apply Pick.there))) (MSub.nil _)) ?_
  refine W_seq ?_
  refine W_region ?_
  refine L_binV rfl rfl rfl bv_lss ?_
  refine L_nil ?_
  refine W_seq ?_
  refine W_weaken (l' := [(1, _), (6, _), (7, _), (8, _), (9, _)]) (Sub.cons rfl (Sub.cons rfl (Sub.cons rfl (Sub.cons rfl (Sub.cons rfl (Sub.nil _)))))) (MSub.refl _) ?_
  refine W_cond rfl (fun hc2 => ?_) (fun hc2 => ?_)
  · skip
    replace hp := cond_t hc2 hp
    refine W_skip ?_
    refine W_seq ?_
    refine W_block ?_
    refine W_seq ?_
    refine W_region ?_
    refine L_move rfl rfl ?_
    have ho := hp; clear hp; obtain ⟨u3, hy3, hp⟩ := idx_bind ho; clear ho
    obtain ⟨u3_1, u3_2, u3_3⟩ := u3
    refine L_idxA (X := a0_2) rfl rfl rfl el70 (RdT.old h0.2) hy3 ?_
    refine L_loadW rfl rfl (RdT.at (RdT.old h0.2) (hy3).2) (by exact agg75) ?_
    refine L_alloc rfl zero75 (fun bk4 => ?_)
    refine L_assign rfl rfl ?_
    refine L_storeW rfl rfl (by first | (with_reducible repeat (first | exact Pick.here _ | apply Pick.there)); done | (repeat (first | exact Pick.here _ | apply Pick.there))) (by exact agg75) (by rfl) (by first | exact allOne rfl | exact fun v hv => GT.one _ v hv | (simp [Value.oneCell', TL.hdr, Value.cells]; done)) ?_
    refine L_nil ?_
    refine W_seq ?_
    have ho := hp; clear hp; obtain ⟨y4, hy4, hp⟩ := bind_any ho; clear ho
    have ho := hp; clear hp; obtain ⟨y5, hy5, hp⟩ := gb_any ho; clear ho
    have ho := hp; clear hp; obtain ⟨y6, hy6, hp⟩ := gb_any ho; clear ho
    have ho := hp; clear hp; obtain ⟨y7, hy7, hp⟩ := gb_any ho; clear ho
    have ho := hp; clear hp; obtain ⟨y8, hy8, hp⟩ := gb_any ho; clear ho
    refine W_D0 [48] mix (by kernel_rfl) rfl ?_
    refine D_fieldAddr GC.none (OpV.t rfl) fld75_0 ?_
    refine D_load GC.none (OpV.t rfl) (fun hg => RdC.blk (by first | (with_reducible repeat (first | exact List.Mem.head _ | apply List.Mem.tail)); done | (repeat (first | exact List.Mem.head _ | apply List.Mem.tail)))) one9 rfl ?_
    refine D_callX GC.none fn139 (OpVs.cons (OpV.t rfl) (OpVs.nil)) (by exact fun hg w F hF hM => i_isWord_walk w u3_1  _ hy4) ?_
    refine D_not GC.none (OpV.t rfl) ?_
    refine D_move GC.none (OpV.t rfl) ?_
    refine D_fieldAddr (GC.some rfl rfl) (OpV.t rfl) fld75_1 ?_
    refine D_load (GC.some rfl rfl) (OpV.s rfl) (fun hg => RdC.blk (by first | (with_reducible repeat (first | exact List.Mem.head _ | apply List.Mem.tail)); done | (repeat (first | exact List.Mem.head _ | apply List.Mem.tail)))) one9 rfl ?_
    refine D_bin (GC.some rfl rfl) (OpV.s rfl) OpV.c (fun hg => bv_sneq) ?_
    refine D_move (GC.some rfl rfl) (OpV.s rfl) ?_
    refine D_fieldAddr (GC.some rfl rfl) (OpV.t rfl) fld75_1 ?_
    refine D_load (GC.some rfl rfl) (OpV.s rfl) (fun hg => RdC.blk (by first | (with_reducible repeat (first | exact List.Mem.head _ | apply List.Mem.tail)); done | (repeat (first | exact List.Mem.head _ | apply List.Mem.tail)))) one9 rfl ?_
    refine D_callX (GC.some rfl rfl) fn139 (OpVs.cons (OpV.s rfl) (OpVs.nil)) (by exact fun hg w F hF hM => i_isWord_walk w u3_2  _ (hy5 (gand (gnot hg.1.2) hg.2))) ?_
    refine D_not (GC.some rfl rfl) (OpV.s rfl) ?_
    refine D_and (cy := _) (GC.some rfl rfl) (OpV.s rfl) (OpV.s rfl) (fun h hb => ⟨h, hb⟩) ?_
    refine D_or (cy := _) GC.none (OpV.t rfl) (OpV.s rfl) (fun h hb => ⟨h, hb⟩) ?_
    refine D_move GC.none (OpV.t rfl) ?_
    refine D_fieldAddr (GC.some rfl rfl) (OpV.t rfl) fld75_2 ?_
    refine D_load (GC.some rfl rfl) (OpV.s rfl) (fun hg => RdC.blk (by first | (with_reducible repeat (first | exact List.Mem.head _ | apply List.Mem.tail)); done | (repeat (first | exact List.Mem.head _ | apply List.Mem.tail)))) one73 rfl ?_
    refine D_lenP (X := u3_3) (GC.some rfl rfl) (OpV.s rfl) el73 ?_
    refine D_callX (GC.some rfl rfl) fn102 (OpVs.cons (OpV.s rfl) (OpVs.cons OpV.c (OpVs.cons OpV.c (OpVs.nil)))) (by exact fun hg w F hF hM => i_within_walk w ((GT.dat u3_3).length : Int) 1 4  _ (hy6 (gnot hg.2))) ?_
    refine D_not (GC.some rfl rfl) (OpV.s rfl) ?_
    refine D_or (cy := _) GC.none (OpV.t rfl) (OpV.s rfl) (fun h hb => ⟨h, hb⟩) ?_
    refine D_move GC.none (OpV.t rfl) ?_
    refine D_fieldAddr (GC.some rfl rfl) (OpV.t rfl) fld75_2 ?_
    refine D_load (GC.some rfl rfl) (OpV.s rfl) (fun hg => RdC.blk (by first | (with_reducible repeat (first | exact List.Mem.head _ | apply List.Mem.tail)); done | (repeat (first | exact List.Mem.head _ | apply List.Mem.tail)))) one73 rfl ?_
    refine D_callX (GC.some rfl rfl) fn140 (OpVs.cons (OpV.s rfl) (OpVs.nil)) (by exact fun hg w F hF hM => i_areChunks_walk w u3_3 (RdT.nowS (RdT.snd (RdT.snd (RdT.of (RdT.old h0.2) (hy3).2))) hF hM) _ (hy7 (gnot hg.2))) ?_
    refine D_not (GC.some rfl rfl) (OpV.s rfl) ?_
    refine D_or (cy := _) GC.none (OpV.t rfl) (OpV.s rfl) (fun h hb => ⟨h, hb⟩) ?_
    refine D_move GC.none (OpV.t rfl) ?_
    refine D_loadW (GC.some rfl rfl) (OpV.t rfl) (fun hg => RdC.blk (by first | (with_reducible repeat (first | exact List.Mem.head _ | apply List.Mem.tail)); done | (repeat (first | exact List.Mem.head _ | apply List.Mem.tail)))) (by exact agg72) ?_
    refine D_fieldAddr (GC.some rfl rfl) (OpV.t rfl) fld75_0 ?_
    refine D_load (GC.some rfl rfl) (OpV.s rfl) (fun hg => RdC.blk (by first | (with_reducible repeat (first | exact List.Mem.head _ | apply List.Mem.tail)); done | (repeat (first | exact List.Mem.head _ | apply List.Mem.tail)))) one9 rfl ?_
    refine D_callX (GC.some rfl rfl) fn79 (OpVs.cons (OpV.s rfl) (OpVs.cons (OpV.s rfl) (OpVs.nil))) (by exact fun hg w F hF hM => i_CSet_snap_walk w (a0_1, a0_2) u3_1 (RdT.nowS (RdT.pair RdT.str (RdT.old h0.2)) hF hM) _ (hy8 (gnot hg.2))) ?_
    refine D_move (GC.some rfl rfl) (OpV.t rfl) ?_
    refine D_bin (GC.some rfl rfl) (OpV.s rfl) (OpV.s rfl) (fun hg => bv_neq) ?_
    refine D_or (cy := _) GC.none (OpV.t rfl) (OpV.s rfl) (fun h hb => ⟨h, hb⟩) ?_
    refine DV_nil ?_
    refine Give_is rfl rfl ?_
    refine Give_drop rfl ?_
    refine Give_drop rfl ?_
    refine Give_drop rfl ?_
    refine Give_drop rfl ?_
    refine Give_drop rfl ?_
    refine Give_drop rfl ?_
    refine Give_drop rfl ?_
    refine Give_drop rfl ?_
    refine Give_drop rfl ?_
    refine Give_drop rfl ?_
    refine Give_drop rfl ?_
    refine Give_drop rfl ?_
    refine Give_drop rfl ?_
    refine Give_drop rfl ?_
    refine Give_drop rfl ?_
    refine Give_drop rfl ?_
    refine Give_drop rfl ?_
    refine Give_drop rfl ?_
    refine Give_drop rfl ?_
    refine Give_drop rfl ?_
    refine Give_drop rfl ?_
    refine Give_drop rfl ?_
    refine Give_drop rfl ?_
    refine Give_drop rfl ?_
    refine Give_drop rfl ?_
    refine Give_drop rfl ?_
    refine Give_drop rfl ?_
    refine Give_drop rfl ?_
    refine Give_drop rfl ?_
    refine Give_drop rfl ?_
    refine Give_drop rfl ?_
    refine Give_drop rfl ?_
    refine Give_drop rfl ?_
    refine Give_drop rfl ?_
    refine Give_drop rfl ?_
    refine Give_nil ?_
    refine W_weaken (l' := [(1, _), (6, _), (7, _), (8, _), (48, _)]) (Sub.cons rfl (Sub.cons rfl (Sub.cons rfl (Sub.cons rfl (Sub.cons rfl (Sub.nil _)))))) (MSub.refl _) ?_
    refine W_cond rfl (fun hc9 => ?_) (fun hc9 => ?_)
    · skip
      replace hp := cond_t hc9 hp
      refine W_seq ?_
      refine W_region ?_
      refine L_assign rfl rfl ?_
      refine L_nil ?_
      have ho := hp; clear hp; obtain ⟨a10, hp, hx_a10⟩ := map_any ho; clear ho
      obtain rfl := hx1 _ hx_a10
      obtain rfl := Option.some.inj hp
      refine W_ret ?_
      refine res1 rfl (ResOK.tmp rfl) ⟨rfl, rfl⟩ (MSub.nil _)
    · skip
      replace hp := cond_f hc9 hp
      refine W_skip ?_
      refine W_region ?_
      refine L_binV rfl rfl rfl bv_add ?_
      refine L_move rfl rfl ?_
      refine L_nil ?_
      exact ⟨IntKind.wrap .i64 (v1_0 + 1), (Sub.cons rfl (Sub.cons rfl (Sub.cons rfl (Sub.cons rfl (Sub.nil _))))), (Arr.sub (MSub.cons (by first | (with_reducible repeat (first | exact Pick.here _ | apply Pick.there)); done | (repeat (first | exact Pick.here _ | apply Pick.there))) (MSub.nil _))), some_eq hp⟩
  · skip
    replace hp := cond_f hc2 hp
    refine W_exit ?_
    have ho := hp; clear hp; obtain ⟨a11, hp, hx_a11⟩ := map_any ho; clear ho
    obtain rfl := hx1 _ hx_a11
    refine W_seq ?_
    have ho := hp; clear hp; obtain ⟨y12, hy12, hp⟩ := bind_any ho; clear ho
    refine W_D0 [2] mix (by kernel_rfl) rfl ?_
    refine D_fieldAddr GC.none (OpV.t rfl) fld72_0 ?_
    refine D_load GC.none (OpV.t rfl) (fun hg => RdC.blk (by first | (with_reducible repeat (first | exact List.Mem.head _ | apply List.Mem.tail)); done | (repeat (first | exact List.Mem.head _ | apply List.Mem.tail)))) one9 rfl ?_
    refine D_callX GC.none fn139 (OpVs.cons (OpV.t rfl) (OpVs.nil)) (by exact fun hg w F hF hM => i_isWord_walk w a0_1  _ hy12) ?_
    refine D_move GC.none (OpV.t rfl) ?_
    refine D_fieldAddr (GC.some rfl rfl) (OpV.t rfl) fld72_1 ?_
    refine D_load (GC.some rfl rfl) (OpV.s rfl) (fun hg => RdC.blk (by first | (with_reducible repeat (first | exact List.Mem.head _ | apply List.Mem.tail)); done | (repeat (first | exact List.Mem.head _ | apply List.Mem.tail)))) one70 rfl ?_
    refine D_lenP (X := a0_2) (GC.some rfl rfl) (OpV.s rfl) el70 ?_
    refine D_bin (GC.some rfl rfl) (OpV.s rfl) OpV.c (fun hg => bv_leq) ?_
    refine D_and (cy := _) GC.none (OpV.t rfl) (OpV.s rfl) (fun h hb => ⟨h, hb⟩) ?_
    refine D_assign GC.none (OpV.t rfl) ?_
    refine DV_nil ?_
    refine Give_is rfl rfl ?_
    refine Give_drop rfl ?_
    refine Give_drop rfl ?_
    refine Give_drop rfl ?_
    refine Give_drop rfl ?_
    refine Give_drop rfl ?_
    refine Give_drop rfl ?_
    refine Give_drop rfl ?_
    refine Give_drop rfl ?_
    refine Give_drop rfl ?_
    refine Give_nil ?_
    obtain rfl := Option.some.inj hp
    refine W_ret ?_
    refine res1 rfl (ResOK.tmp rfl) ⟨rfl, rfl⟩ (MSub.nil _)

noncomputable def i_CatOk (a0 : D_Catalog) : Option Bool :=
  whileP (fun s1 : Int => cond (decide (s1 < (a0.length : Int))) (Option.bind (idx a0 s1) (fun y3 => Option.bind (i_setOk (y3.1, y3.2)) (fun y4 => gb ((!(!y4)) && (decide (0 < s1))) (idx a0 (IntKind.wrap .i64 (s1 - 1))) (fun y5 => cond ((!y4) || ((decide (0 < s1)) && (!sLt y5.1 y3.1))) (Option.map .inr (some false)) (some (.inl (IntKind.wrap .i64 (s1 + 1)))))))) (Option.map .inr (some (decide ((a0.length : Int) ≤ 5))))) 0

theorem i_CatOk_walk (w : World) (a0 : T_Catalog) (h0 : GT.rd w [] a0) (r : Bool) (hp : i_CatOk (GT.dat a0) = some r) : Spec Tryd.prog 78 [.agg (GT.cells a0).toArray].toArray w [] (IsV (.bool r)) := by
  change Spec _ _ ([Value.agg #[(TL.hdr a0)]] : List Value).toArray w [] _
  refine Spec.intro Tryd.func78 rfl Tryd.ntmps78 rfl ?_
  unfold i_CatOk at hp
  try dsimp only [dat_pair, dat_int, dat_bool, dat_str, dat_ar] at hp
  refine W_seq ?_
  refine W_region ?_
  refine L_box rfl rfl (fun bk1 => ?_)
  refine L_assign rfl rfl ?_
  refine L_nil ?_
  refine W_seq ?_
  refine W_seq ?_
  refine W_region ?_
  refine L_fieldAddr rfl rfl fld53_0 ?_
  refine L_load rfl rfl (RdC.blk (by first | (with_reducible repeat (first | exact List.Mem.head _ | apply List.Mem.tail)); done | (repeat (first | exact List.Mem.head _ | apply List.Mem.tail)))) one51 rfl ?_
  refine L_lenP (X := a0) rfl rfl el51 ?_
  refine L_move rfl rfl ?_
  refine L_nil ?_
  refine W_block ?_
  refine W_while (σ := Int) GT.dat (fun (v1_0 : Int) => [(8, .int .i64 v1_0)]) (fun (v1_0 : Int) => []) [(1, _), (6, _), (7, _)] [blk bk1 _ _] 0 hp (Sub.cons rfl (Sub.cons rfl (Sub.cons rfl (Sub.cons rfl (Sub.nil _))))) (MSub.cons (by first | (with_reducible repeat (first | exact Pick.here _ | apply Pick.there)); done | (repeat (first | exact Pick.here _ | apply Pick.there))) (MSub.nil _)) ?_
  clear hp
  rintro v1_0 x1 hp hx1
  try dsimp only [dat_pair, dat_int, dat_bool, dat_str, dat_ar] at hp
  refine W_weaken (l' := [(1, _), (6, _), (7, _), (8, _)]) (Sub.cons rfl (Sub.cons rfl (Sub.cons rfl (Sub.cons rfl (Sub.nil _))))) (M' := [_]) (MSub.cons (by first | (with_reducible repeat (first | exact Pick.here _ | apply Pick.there)); done | (repeat (first | exact Pick.here _ | apply Pick.there))) (MSub.nil _)) ?_
  refine W_seq ?_
  refine W_region ?_
  refine L_binV rfl rfl rfl bv_lss ?_
  refine L_nil ?_
  refine W_seq ?_
  refine W_weaken (l' := [(1, _), (6, _), (7, _), (8, _), (9, _)]) (Sub.cons rfl (Sub.cons rfl (Sub.cons rfl (Sub.cons rfl (Sub.cons rfl (Sub.nil _)))))) (MSub.refl _) ?_
  refine W_cond rfl (fun hc2 => ?_) (fun hc2 => ?_)
  · skip
    replace hp := cond_t hc2 hp
    refine W_skip ?_
    refine W_seq ?_
    refine W_block ?_
    refine W_seq ?_
    refine W_region ?_
    refine L_move rfl rfl ?_
    have ho := hp; clear hp; obtain ⟨u3, hy3, hp⟩ := idx_bind ho; clear ho
    obtain ⟨u3_1, u3_2⟩ := u3
    refine L_idxA (X := a0) rfl rfl rfl el51 (RdT.old h0) hy3 ?_
    refine L_loadW rfl rfl (RdT.at (RdT.old h0) (hy3).2) (by exact agg72) ?_
    refine L_alloc rfl zero72 (fun bk4 => ?_)
    refine L_assign rfl rfl ?_
    refine L_storeW rfl rfl (by first | (with_reducible repeat (first | exact Pick.here _ | apply Pick.there)); done | (repeat (first | exact Pick.here _ | apply Pick.there))) (by exact agg72) (by rfl) (by first | exact allOne rfl | exact fun v hv => GT.one _ v hv | (simp [Value.oneCell', TL.hdr, Value.cells]; done)) ?_
    refine L_nil ?_
    refine W_seq ?_
    have ho := hp; clear hp; obtain ⟨y4, hy4, hp⟩ := bind_any ho; clear ho
    have ho := hp; clear hp; obtain ⟨u5, hy5, hp⟩ := idx_gb ho; clear ho
    obtain ⟨u5_1, u5_2⟩ := u5
    refine W_D0 [31] mix (by kernel_rfl) rfl ?_
    refine D_loadW GC.none (OpV.t rfl) (fun hg => RdC.blk (by first | (with_reducible repeat (first | exact List.Mem.head _ | apply List.Mem.tail)); done | (repeat (first | exact List.Mem.head _ | apply List.Mem.tail)))) (by exact agg72) ?_
    refine D_callX GC.none fn114 (OpVs.cons (OpV.t rfl) (OpVs.nil)) (by exact fun hg w F hF hM => i_setOk_walk w (u3_1, u3_2) (RdT.nowS (RdT.pair RdT.str (RdT.snd (RdT.of (RdT.old h0) (hy3).2))) hF hM) _ hy4) ?_
    refine D_not GC.none (OpV.t rfl) ?_
    refine D_move GC.none (OpV.t rfl) ?_
    refine D_move (GC.some rfl rfl) (OpV.t rfl) ?_
    refine D_bin (GC.some rfl rfl) (OpV.s rfl) OpV.c (fun hg => bv_gtr) ?_
    refine D_move (GC.some rfl rfl) (OpV.s rfl) ?_
    refine D_fieldAddr (GC.some rfl rfl) (OpV.t rfl) fld53_0 ?_
    refine D_load (GC.some rfl rfl) (OpV.s rfl) (fun hg => RdC.blk (by first | (with_reducible repeat (first | exact List.Mem.head _ | apply List.Mem.tail)); done | (repeat (first | exact List.Mem.head _ | apply List.Mem.tail)))) one51 rfl ?_
    refine D_move (GC.some rfl rfl) (OpV.t rfl) ?_
    refine D_bin (GC.some rfl rfl) (OpV.s rfl) OpV.c (fun hg => bv_sub) ?_
    refine D_idxA (X := a0) (GC.some rfl rfl) (OpV.s rfl) (OpV.s rfl) el51 (RdT.old h0) (fun hg => hy5 (gand (gnot hg.1.2) hg.2)) ?_
    refine D_fieldAddr (GC.some rfl rfl) (OpV.s rfl) fld72_0 ?_
    refine D_load (GC.some rfl rfl) (OpV.s rfl) (fun hg => RdT.at (RdT.old h0) (hy5 (gand (gnot hg.1.2) hg.2)).2) one9 rfl ?_
    refine D_fieldAddr (GC.some rfl rfl) (OpV.t rfl) fld72_0 ?_
    refine D_load (GC.some rfl rfl) (OpV.s rfl) (fun hg => RdC.blk (by first | (with_reducible repeat (first | exact List.Mem.head _ | apply List.Mem.tail)); done | (repeat (first | exact List.Mem.head _ | apply List.Mem.tail)))) one9 rfl ?_
    refine D_bin (GC.some rfl rfl) (OpV.s rfl) (OpV.s rfl) (fun hg => bv_sgeq) ?_
    refine D_and (cy := _) (GC.some rfl rfl) (OpV.s rfl) (OpV.s rfl) (fun h hb => ⟨h, hb⟩) ?_
    refine D_or (cy := _) GC.none (OpV.t rfl) (OpV.s rfl) (fun h hb => ⟨h, hb⟩) ?_
    refine DV_nil ?_
    refine Give_is rfl rfl ?_
    refine Give_drop rfl ?_
    refine Give_drop rfl ?_
    refine Give_drop rfl ?_
    refine Give_drop rfl ?_
    refine Give_drop rfl ?_
    refine Give_drop rfl ?_
    refine Give_drop rfl ?_
    refine Give_drop rfl ?_
    refine Give_drop rfl ?_
    refine Give_drop rfl ?_
    refine Give_drop rfl ?_
    refine Give_drop rfl ?_
    refine Give_drop rfl ?_
    refine Give_drop rfl ?_
    refine Give_drop rfl ?_
    refine Give_drop rfl ?_
    refine Give_drop rfl ?_
    refine Give_drop rfl ?_
    refine Give_nil ?_
    refine W_weaken (l' := [(1, _), (6, _), (7, _), (8, _), (31, _)]) (Sub.cons rfl (Sub.cons rfl (Sub.cons rfl (Sub.cons rfl (Sub.cons rfl (Sub.nil _)))))) (MSub.refl _) ?_
    refine W_cond rfl (fun hc6 => ?_) (fun hc6 => ?_)
    · skip
      replace hp := cond_t hc6 hp
      refine W_seq ?_
      refine W_region ?_
      refine L_assign rfl rfl ?_
      refine L_nil ?_
      have ho := hp; clear hp; obtain ⟨a7, hp, hx_a7⟩ := map_any ho; clear ho
      obtain rfl := hx1 _ hx_a7
      obtain rfl := Option.some.inj hp
      refine W_ret ?_
      refine res1 rfl (ResOK.tmp rfl) ⟨rfl, rfl⟩ (MSub.nil _)
    · skip
      replace hp := cond_f hc6 hp
      refine W_skip ?_
      refine W_region ?_
      refine L_binV rfl rfl rfl bv_add ?_
      refine L_move rfl rfl ?_
      refine L_nil ?_
      exact ⟨IntKind.wrap .i64 (v1_0 + 1), (Sub.cons rfl (Sub.cons rfl (Sub.cons rfl (Sub.cons rfl (Sub.nil _))))), (Arr.sub (MSub.cons (by first | (with_reducible repeat (first | exact Pick.here _ | apply Pick.there)); done | (repeat (first | exact Pick.here _ | apply Pick.there))) (MSub.nil _))), some_eq hp⟩
  · skip
    replace hp := cond_f hc2 hp
    refine W_exit ?_
    have ho := hp; clear hp; obtain ⟨a8, hp, hx_a8⟩ := map_any ho; clear ho
    obtain rfl := hx1 _ hx_a8
    refine W_seq ?_
    refine W_region ?_
    refine L_fieldAddr rfl rfl fld53_0 ?_
    refine L_load rfl rfl (RdC.blk (by first | (with_reducible repeat (first | exact List.Mem.head _ | apply List.Mem.tail)); done | (repeat (first | exact List.Mem.head _ | apply List.Mem.tail)))) one51 rfl ?_
    refine L_lenP (X := a0) rfl rfl el51 ?_
    refine L_binV rfl rfl rfl bv_leq ?_
    refine L_assign rfl rfl ?_
    refine L_nil ?_
    obtain rfl := Option.some.inj hp
    refine W_ret ?_
    refine res1 rfl (ResOK.tmp rfl) ⟨rfl, rfl⟩ (MSub.nil _)

end Go.Proofs.SL
