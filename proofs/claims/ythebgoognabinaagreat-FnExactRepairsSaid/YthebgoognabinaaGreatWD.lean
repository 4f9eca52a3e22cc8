/- Walks of functions, each with the function on data that it follows. -/
import Derived.Test.YthebgoognabinaaGreatWC
import Derived.Test.YthebgoognabinaaGreatFP
import Derived.Test.YthebgoognabinaaGreatFB
namespace Go.Proofs.SL
open Go
abbrev D_Copy := ByteArray × Int × Int
theorem fn49 : IsFn Tryz.prog 49 := ⟨_, Tryz.func49, by kernel_rfl, rfl⟩
theorem fn26 : IsFn Tryz.prog 26 := ⟨_, Tryz.func26, by kernel_rfl, rfl⟩
theorem fn23 : IsFn Tryz.prog 23 := ⟨_, Tryz.func23, by kernel_rfl, rfl⟩
theorem fn24 : IsFn Tryz.prog 24 := ⟨_, Tryz.func24, by kernel_rfl, rfl⟩
theorem fn25 : IsFn Tryz.prog 25 := ⟨_, Tryz.func25, by kernel_rfl, rfl⟩
theorem bld61 : bldOf Tryz.prog 61 = some ([(0, 1), (1, 1), (2, 1)], [.string ByteArray.empty, .int .i64 0, .int .i64 0]) := by kernel_rfl
theorem fn30 : IsFn Tryz.prog 30 := ⟨_, Tryz.func30, by kernel_rfl, rfl⟩
theorem fn31 : IsFn Tryz.prog 31 := ⟨_, Tryz.func31, by kernel_rfl, rfl⟩
theorem fn32 : IsFn Tryz.prog 32 := ⟨_, Tryz.func32, by kernel_rfl, rfl⟩
theorem fn33 : IsFn Tryz.prog 33 := ⟨_, Tryz.func33, by kernel_rfl, rfl⟩
theorem fn34 : IsFn Tryz.prog 34 := ⟨_, Tryz.func34, by kernel_rfl, rfl⟩
noncomputable def s_l20Have (a0 : D_Ups) (a1 : ByteArray) (a2 : List Bool) : Option (List Int) :=
  Option.bind (some ([] : List Int)) (fun y2 => Option.bind (s_l18At (a0.1, a0.2) a1) (fun y3 => whileP (fun s4 : (List Int) × Int => cond ((decide (s4.2 < 3)) && (decide (0 ≤ y3))) (Option.bind (idx a2 s4.2) (fun y6 => gb y6 (idx a0.2 y3) (fun y7 => gb y6 (s_l18Has y7.2.1 s4.2) (fun y8 => cond (y6 && y8) (Option.bind (appP s4.1 [s4.2]) (fun y11 => some (.inl ((y11, IntKind.wrap .i64 (s4.2 + 1)))))) (some (.inl ((s4.1, IntKind.wrap .i64 (s4.2 + 1))))))))) (Option.map .inr (some s4.1))) (y2, 0)))

theorem s_l20Have_walk (w : World) (a0 : T_Ups) (a1 : ByteArray) (a2 : TL Bool) (h0 : GT.rd w [] a0) (h2 : GT.rd w [] a2) (r : (List Int)) (hp : s_l20Have (GT.dat a0) a1 (GT.dat a2) = some r) : Spec Tryz.prog 25 [.agg (GT.cells a0).toArray, .string a1, (TL.hdr a2)].toArray w [] (fun v M => ∃ (x0 : TL Int), v = (TL.hdr x0) ∧ GT.dat x0 = r ∧ M = [treeH x0]) := by
  obtain ⟨a0_1, a0_2⟩ := a0
  change Spec _ _ ([Value.agg #[.int .i64 a0_1, (TL.hdr a0_2)], .string a1, (TL.hdr a2)] : List Value).toArray w [] _
  refine Spec.intro Tryz.func25 rfl Tryz.ntmps25 rfl ?_
  unfold s_l20Have at hp
  try dsimp only [dat_pair, dat_int, dat_bool, dat_str] at hp
  refine W_seq ?_
  refine W_region ?_
  refine L_box rfl rfl (fun bk3 => ?_)
  refine L_assign (v := (TL.hdr (TL.nil Int 0))) rfl rfl ?_
  refine L_nil ?_
  refine W_seq ?_
  refine W_region ?_
  have ho := hp; clear hp; obtain ⟨y2, hy2, hp⟩ := bind_any ho; clear ho
  refine L_mk0 Int rfl el57 (fun X1 hdX1 => ?_)
  obtain rfl : GT.dat X1 = y2 := hdX1.trans (Option.some.inj hy2)
  clear hy2 hdX1
  refine L_assign rfl rfl ?_
  refine L_nil ?_
  refine W_seq ?_
  refine W_region ?_
  refine L_loadW rfl rfl (RdC.blk (by first | (with_reducible repeat (first | exact List.Mem.head _ | apply List.Mem.tail)); done | (repeat (first | exact List.Mem.head _ | apply List.Mem.tail)))) (by exact agg39) ?_
  refine L_move rfl rfl ?_
  have ho := hp; clear hp; obtain ⟨y3, hy3, hp⟩ := bind_any ho; clear ho
  refine L_callX rfl fn49 rfl (by exact fun w hw => s_l18At_walk w (a0_1, a0_2) a1 (RdT.now (RdT.pair RdT.int (RdT.old h0.2)) hw) _ hy3) ?_
  refine L_assign rfl rfl ?_
  refine L_nil ?_
  refine W_seq ?_
  refine W_seq ?_
  refine W_region ?_
  refine L_assign rfl rfl ?_
  refine L_nil ?_
  refine W_block ?_
  refine W_while (σ := (TL Int) × Int) GT.dat (fun ((v4_0, v4_1) : (TL Int) × Int) => [(7, (TL.hdr v4_0)), (9, .int .i64 v4_1)]) (fun ((v4_0, v4_1) : (TL Int) × Int) => [treeH v4_0]) [(2, _), (3, _), (8, _)] [blk bk3 _ _] (X1, 0) hp (Sub.cons rfl (Sub.cons rfl (Sub.cons rfl (Sub.cons rfl (Sub.cons rfl (Sub.nil _)))))) (MSub.cons (by first | (with_reducible repeat (first | exact Pick.here _ | apply Pick.there)); done | (repeat (first | exact Pick.here _ | apply Pick.there))) (MSub.cons (by first | (with_reducible repeat (first | exact Pick.here _ | apply Pick.there)); done | (repeat (first | exact Pick.here _ | apply Pick.there))) (MSub.nil _))) ?_
  clear hp
  rintro ⟨v4_0, v4_1⟩ x4 hp hx4
  try dsimp only [dat_pair, dat_int, dat_bool, dat_str] at hp
  refine W_weaken (l' := [(2, _), (3, _), (7, _), (8, _), (9, _)]) (Sub.cons rfl (Sub.cons rfl (Sub.cons rfl (Sub.cons rfl (Sub.cons rfl (Sub.nil _)))))) (M' := [_, _]) (MSub.cons (by first | (with_reducible repeat (first | exact Pick.here _ | apply Pick.there)); done | (repeat (first | exact Pick.here _ | apply Pick.there))) (MSub.cons (by first | (with_reducible repeat (first | exact Pick.here _ | apply Pick.there)); done | (repeat (first | exact Pick.here _ | apply Pick.there))) (MSub.nil _))) ?_
  refine W_seq ?_
  refine W_seq ?_
  refine W_D0 [19] mix (by kernel_rfl) rfl ?_
  refine D_move GC.none (OpV.t rfl) ?_
  refine D_bin GC.none (OpV.t rfl) OpV.c (fun hg => bv_lss) ?_
  refine D_move GC.none (OpV.t rfl) ?_
  refine D_move (GC.some rfl rfl) (OpV.t rfl) ?_
  refine D_bin (GC.some rfl rfl) (OpV.s rfl) OpV.c (fun hg => bv_geq) ?_
  refine D_and (cy := _) GC.none (OpV.t rfl) (OpV.s rfl) (fun h hb => ⟨h, hb⟩) ?_
  refine DV_nil ?_
  refine Give_is rfl rfl ?_
  refine Give_drop rfl ?_
  refine Give_drop rfl ?_
  refine Give_drop rfl ?_
  refine Give_drop rfl ?_
  refine Give_drop rfl ?_
  refine Give_nil ?_
  refine W_weaken (l' := [(2, _), (3, _), (7, _), (8, _), (9, _), (19, _)]) (Sub.cons rfl (Sub.cons rfl (Sub.cons rfl (Sub.cons rfl (Sub.cons rfl (Sub.cons rfl (Sub.nil _))))))) (MSub.refl _) ?_
  refine W_cond rfl (fun hc5 => ?_) (fun hc5 => ?_)
  · skip
    replace hp := cond_t hc5 hp
    refine W_skip ?_
    refine W_seq ?_
    refine W_block ?_
    refine W_seq ?_
    have ho := hp; clear hp; obtain ⟨u6, hy6, hp⟩ := idx_bind ho; clear ho
    have ho := hp; clear hp; obtain ⟨u7, hy7, hp⟩ := idx_gb ho; clear ho
    obtain ⟨u7_1, u7_2, u7_3⟩ := u7
    have ho := hp; clear hp; obtain ⟨y8, hy8, hp⟩ := gb_any ho; clear ho
    refine W_D0 [35] mix (by kernel_rfl) rfl ?_
    refine D_move GC.none (OpV.t rfl) ?_
    refine D_move GC.none (OpV.t rfl) ?_
    refine D_idxA (X := a2) GC.none (OpV.t rfl) (OpV.t rfl) el28 (RdT.old h2) (fun _ => hy6) ?_
    refine D_load0 GC.none (OpV.t rfl) (fun hg => RdT.at (RdT.old h2) (hy6).2) one4 rfl ?_
    refine D_move GC.none (OpV.t rfl) ?_
    refine D_fieldAddr (GC.some rfl rfl) (OpV.t rfl) fld39_1 ?_
    refine D_load (GC.some rfl rfl) (OpV.s rfl) (fun hg => RdC.blk (by first | (with_reducible repeat (first | exact List.Mem.head _ | apply List.Mem.tail)); done | (repeat (first | exact List.Mem.head _ | apply List.Mem.tail)))) one37 rfl ?_
    refine D_move (GC.some rfl rfl) (OpV.t rfl) ?_
    refine D_idxA (X := a0_2) (GC.some rfl rfl) (OpV.s rfl) (OpV.s rfl) el37 (RdT.old h0.2) (fun hg => hy7 hg.2) ?_
    refine D_fieldAddr (GC.some rfl rfl) (OpV.s rfl) fld88_1 ?_
    refine D_load (GC.some rfl rfl) (OpV.s rfl) (fun hg => RdT.at (RdT.old h0.2) (hy7 hg.2).2) one57 rfl ?_
    refine D_move (GC.some rfl rfl) (OpV.t rfl) ?_
    refine D_callX (GC.some rfl rfl) fn26 (OpVs.cons (OpV.s rfl) (OpVs.cons (OpV.s rfl) (OpVs.nil))) (by exact fun hg w F hF hM => s_l18Has_walk w u7_2 v4_1 (RdT.nowS (RdT.fst (RdT.snd (RdT.of (RdT.old h0.2) (hy7 hg.2).2))) hF hM) _ (hy8 hg.2)) ?_
    refine D_and (cy := _) GC.none (OpV.t rfl) (OpV.s rfl) (fun h hb => ⟨h, hb⟩) ?_
    refine DV_nil ?_
    refine Give_is rfl rfl ?_
    refine Give_drop rfl ?_
    refine Give_drop rfl ?_
    refine Give_drop rfl ?_
    refine Give_drop rfl ?_
    refine Give_drop rfl ?_
    refine Give_drop rfl ?_
    refine Give_drop rfl ?_
    refine Give_drop rfl ?_
    refine Give_drop rfl ?_
    refine Give_drop rfl ?_
    refine Give_drop rfl ?_
    refine Give_drop rfl ?_
    refine Give_drop rfl ?_
    refine Give_nil ?_
    refine W_weaken (l' := [(2, _), (3, _), (7, _), (8, _), (9, _), (35, _)]) (Sub.cons rfl (Sub.cons rfl (Sub.cons rfl (Sub.cons rfl (Sub.cons rfl (Sub.cons rfl (Sub.nil _))))))) (MSub.refl _) ?_
    refine W_cond rfl (fun hc9 => ?_) (fun hc9 => ?_)
    · skip
      replace hp := cond_t hc9 hp
      refine W_region ?_
      refine L_move rfl rfl ?_
      refine L_move rfl rfl ?_
      refine L_buildSlice1 rfl rfl el57 rfl (by decide) (by decide) rfl (fun bb38 => ?_)
      have ho := hp; clear hp; obtain ⟨y11, hy11, hp⟩ := bind_any ho; clear ho
      refine L_app1F (X := v4_0) (v4_1 : Int) rfl rfl rfl el57 rfl rfl (by first | (with_reducible repeat (first | exact Pick.here _ | apply Pick.there)); done | (repeat (first | exact Pick.here _ | apply Pick.there))) (by first | (with_reducible repeat (first | exact List.Mem.head _ | apply List.Mem.tail)); done | (repeat (first | exact List.Mem.head _ | apply List.Mem.tail)))  hy11 (by decide) (fun X10 hdX10 => ?_)
      subst hdX10
      refine L_assign rfl rfl ?_
      refine L_nil ?_
      refine W_region ?_
      refine L_move rfl rfl ?_
      refine L_binV rfl rfl rfl bv_add ?_
      refine L_assign rfl rfl ?_
      refine L_nil ?_
      exact ⟨(X10, IntKind.wrap .i64 (v4_1 + 1)), (Sub.cons rfl (Sub.cons rfl (Sub.cons rfl (Sub.cons rfl (Sub.cons rfl (Sub.nil _)))))), (Arr.sub (MSub.cons (by first | (with_reducible repeat (first | exact Pick.here _ | apply Pick.there)); done | (repeat (first | exact Pick.here _ | apply Pick.there))) (MSub.cons (by first | (with_reducible repeat (first | exact Pick.here _ | apply Pick.there)); done | (repeat (first | exact Pick.here _ | apply Pick.there))) (MSub.nil _)))), some_eq hp⟩
    · skip
      replace hp := cond_f hc9 hp
      refine W_skip ?_
      refine W_region ?_
      refine L_move rfl rfl ?_
      refine L_binV rfl rfl rfl bv_add ?_
      refine L_assign rfl rfl ?_
      refine L_nil ?_
      exact ⟨(v4_0, IntKind.wrap .i64 (v4_1 + 1)), (Sub.cons rfl (Sub.cons rfl (Sub.cons rfl (Sub.cons rfl (Sub.cons rfl (Sub.nil _)))))), (Arr.sub (MSub.cons (by first | (with_reducible repeat (first | exact Pick.here _ | apply Pick.there)); done | (repeat (first | exact Pick.here _ | apply Pick.there))) (MSub.cons (by first | (with_reducible repeat (first | exact Pick.here _ | apply Pick.there)); done | (repeat (first | exact Pick.here _ | apply Pick.there))) (MSub.nil _)))), some_eq hp⟩
  · skip
    replace hp := cond_f hc5 hp
    refine W_exit ?_
    have ho := hp; clear hp; obtain ⟨a12, hp, hx_a12⟩ := map_any ho; clear ho
    obtain rfl := hx4 _ hx_a12
    refine W_seq ?_
    refine W_region ?_
    refine L_move rfl rfl ?_
    refine L_assign rfl rfl ?_
    refine L_nil ?_
    obtain rfl := Option.some.inj hp
    refine W_ret ?_
    refine res1 rfl (ResOK.tmp rfl) ⟨v4_0, rfl, rfl, rfl⟩ (MSub.cons (by first | (with_reducible repeat (first | exact Pick.here _ | apply Pick.there)); done | (repeat (first | exact Pick.here _ | apply Pick.there))) (MSub.nil _))

noncomputable def i_upOf (a0 : List Int) (a1 : List Bool) : Option (List Int) :=
  Option.bind (some ([] : List Int)) (fun y2 => whileP (fun s3 : (List Int) × Int => cond (decide (s3.2 < (a0.length : Int))) (Option.bind (idx a0 s3.2) (fun y5 => Option.bind (idx a1 y5) (fun y6 => cond y6 (Option.bind (appP s3.1 [y5]) (fun y9 => some (.inl ((y9, IntKind.wrap .i64 (s3.2 + 1)))))) (some (.inl ((s3.1, IntKind.wrap .i64 (s3.2 + 1)))))))) (Option.map .inr (some s3.1))) (y2, 0))

theorem i_upOf_walk (w : World) (a0 : TL Int) (a1 : TL Bool) (h0 : GT.rd w [] a0) (h1 : GT.rd w [] a1) (r : (List Int)) (hp : i_upOf (GT.dat a0) (GT.dat a1) = some r) : Spec Tryz.prog 33 [(TL.hdr a0), (TL.hdr a1)].toArray w [] (fun v M => ∃ (x0 : TL Int), v = (TL.hdr x0) ∧ GT.dat x0 = r ∧ M = [treeH x0]) := by
  refine Spec.intro Tryz.func33 rfl Tryz.ntmps33 rfl ?_
  unfold i_upOf at hp
  try dsimp only [dat_pair, dat_int, dat_bool, dat_str] at hp
  refine W_seq ?_
  refine W_region ?_
  refine L_assign (v := (TL.hdr (TL.nil Int 0))) rfl rfl ?_
  refine L_nil ?_
  refine W_seq ?_
  refine W_region ?_
  have ho := hp; clear hp; obtain ⟨y2, hy2, hp⟩ := bind_any ho; clear ho
  refine L_mk0 Int rfl el57 (fun X1 hdX1 => ?_)
  obtain rfl : GT.dat X1 = y2 := hdX1.trans (Option.some.inj hy2)
  clear hy2 hdX1
  refine L_assign rfl rfl ?_
  refine L_nil ?_
  refine W_seq ?_
  refine W_seq ?_
  refine W_region ?_
  refine L_move rfl rfl ?_
  refine L_lenP (X := a0) rfl rfl el57 ?_
  refine L_move rfl rfl ?_
  refine L_nil ?_
  refine W_block ?_
  refine W_while (σ := (TL Int) × Int) GT.dat (fun ((v3_0, v3_1) : (TL Int) × Int) => [(5, (TL.hdr v3_0)), (11, .int .i64 v3_1)]) (fun ((v3_0, v3_1) : (TL Int) × Int) => [treeH v3_0]) [(1, _), (9, _), (10, _)] [] (X1, 0) hp (Sub.cons rfl (Sub.cons rfl (Sub.cons rfl (Sub.cons rfl (Sub.cons rfl (Sub.nil _)))))) (MSub.cons (by first | (with_reducible repeat (first | exact Pick.here _ | apply Pick.there)); done | (repeat (first | exact Pick.here _ | apply Pick.there))) (MSub.nil _)) ?_
  clear hp
  rintro ⟨v3_0, v3_1⟩ x3 hp hx3
  try dsimp only [dat_pair, dat_int, dat_bool, dat_str] at hp
  refine W_weaken (l' := [(1, _), (5, _), (9, _), (10, _), (11, _)]) (Sub.cons rfl (Sub.cons rfl (Sub.cons rfl (Sub.cons rfl (Sub.cons rfl (Sub.nil _)))))) (M' := [_]) (MSub.cons (by first | (with_reducible repeat (first | exact Pick.here _ | apply Pick.there)); done | (repeat (first | exact Pick.here _ | apply Pick.there))) (MSub.nil _)) ?_
  refine W_seq ?_
  refine W_region ?_
  refine L_binV rfl rfl rfl bv_lss ?_
  refine L_nil ?_
  refine W_seq ?_
  refine W_weaken (l' := [(1, _), (5, _), (9, _), (10, _), (11, _), (12, _)]) (Sub.cons rfl (Sub.cons rfl (Sub.cons rfl (Sub.cons rfl (Sub.cons rfl (Sub.cons rfl (Sub.nil _))))))) (MSub.refl _) ?_
  refine W_cond rfl (fun hc4 => ?_) (fun hc4 => ?_)
  · skip
    replace hp := cond_t hc4 hp
    refine W_skip ?_
    refine W_seq ?_
    refine W_block ?_
    refine W_seq ?_
    refine W_region ?_
    have ho := hp; clear hp; obtain ⟨u5, hy5, hp⟩ := idx_bind ho; clear ho
    refine L_idxA (X := a0) rfl rfl rfl el57 (RdT.old h0) hy5 ?_
    refine L_load0 rfl rfl (RdT.at (RdT.old h0) (hy5).2) one3 rfl ?_
    refine L_assign rfl rfl ?_
    refine L_nil ?_
    refine W_seq ?_
    refine W_region ?_
    refine L_move rfl rfl ?_
    refine L_move rfl rfl ?_
    have ho := hp; clear hp; obtain ⟨u6, hy6, hp⟩ := idx_bind ho; clear ho
    refine L_idxA (X := a1) rfl rfl rfl el28 (RdT.old h1) hy6 ?_
    refine L_load0 rfl rfl (RdT.at (RdT.old h1) (hy6).2) one4 rfl ?_
    refine L_nil ?_
    refine W_weaken (l' := [(1, _), (5, _), (7, _), (9, _), (10, _), (11, _), (18, _)]) (Sub.cons rfl (Sub.cons rfl (Sub.cons rfl (Sub.cons rfl (Sub.cons rfl (Sub.cons rfl (Sub.cons rfl (Sub.nil _)))))))) (MSub.refl _) ?_
    refine W_cond rfl (fun hc7 => ?_) (fun hc7 => ?_)
    · skip
      replace hp := cond_t hc7 hp
      refine W_region ?_
      refine L_move rfl rfl ?_
      refine L_move rfl rfl ?_
      refine L_buildSlice1 rfl rfl el57 rfl (by decide) (by decide) rfl (fun bb21 => ?_)
      have ho := hp; clear hp; obtain ⟨y9, hy9, hp⟩ := bind_any ho; clear ho
      refine L_app1F (X := v3_0) (u5 : Int) rfl rfl rfl el57 rfl rfl (by first | (with_reducible repeat (first | exact Pick.here _ | apply Pick.there)); done | (repeat (first | exact Pick.here _ | apply Pick.there))) (by first | (with_reducible repeat (first | exact List.Mem.head _ | apply List.Mem.tail)); done | (repeat (first | exact List.Mem.head _ | apply List.Mem.tail)))  hy9 (by decide) (fun X8 hdX8 => ?_)
      subst hdX8
      refine L_assign rfl rfl ?_
      refine L_nil ?_
      refine W_region ?_
      refine L_binV rfl rfl rfl bv_add ?_
      refine L_move rfl rfl ?_
      refine L_nil ?_
      exact ⟨(X8, IntKind.wrap .i64 (v3_1 + 1)), (Sub.cons rfl (Sub.cons rfl (Sub.cons rfl (Sub.cons rfl (Sub.cons rfl (Sub.nil _)))))), (Arr.sub (MSub.cons (by first | (with_reducible repeat (first | exact Pick.here _ | apply Pick.there)); done | (repeat (first | exact Pick.here _ | apply Pick.there))) (MSub.nil _))), some_eq hp⟩
    · skip
      replace hp := cond_f hc7 hp
      refine W_skip ?_
      refine W_region ?_
      refine L_binV rfl rfl rfl bv_add ?_
      refine L_move rfl rfl ?_
      refine L_nil ?_
      exact ⟨(v3_0, IntKind.wrap .i64 (v3_1 + 1)), (Sub.cons rfl (Sub.cons rfl (Sub.cons rfl (Sub.cons rfl (Sub.cons rfl (Sub.nil _)))))), (Arr.sub (MSub.cons (by first | (with_reducible repeat (first | exact Pick.here _ | apply Pick.there)); done | (repeat (first | exact Pick.here _ | apply Pick.there))) (MSub.nil _))), some_eq hp⟩
  · skip
    replace hp := cond_f hc4 hp
    refine W_exit ?_
    have ho := hp; clear hp; obtain ⟨a10, hp, hx_a10⟩ := map_any ho; clear ho
    obtain rfl := hx3 _ hx_a10
    refine W_seq ?_
    refine W_region ?_
    refine L_move rfl rfl ?_
    refine L_assign rfl rfl ?_
    refine L_nil ?_
    obtain rfl := Option.some.inj hp
    refine W_ret ?_
    refine res1 rfl (ResOK.tmp rfl) ⟨v3_0, rfl, rfl, rfl⟩ (MSub.cons (by first | (with_reducible repeat (first | exact Pick.here _ | apply Pick.there)); done | (repeat (first | exact Pick.here _ | apply Pick.there))) (MSub.nil _))

noncomputable def s_Repairs (a0 : D_Catalog) (a1 : D_Ups) (a2 : List Bool) : Option (List D_Copy) :=
  Option.bind (some ([] : List D_Copy)) (fun y2 => Option.bind (s_CatOk a0) (fun y3 => gb (!(!y3)) (s_UpsOk (a1.1, a1.2)) (fun y4 => cond (((!y3) || (!y4)) || (!decide ((a2.length : Int) = 3))) (some y2) (Option.bind (s_AllChunks a0) (fun y6 => whileP (fun s7 : (List D_Copy) × Int => cond (decide (s7.2 < (y6.length : Int))) (Option.bind (idx y6 s7.2) (fun y9 => Option.bind (s_l20Have (a1.1, a1.2) y9 a2) (fun y10 => whileP (fun s11 : (List D_Copy) × Int × Int => cond (((decide (s11.2.2 < 3)) && (decide (0 < (y10.length : Int)))) && (decide (0 < s11.2.1))) (Option.bind (idx a2 s11.2.2) (fun y13 => gb y13 (s_l18Has y10 s11.2.2) (fun y14 => cond (y13 && (!y14)) (Option.bind (idx y6 s7.2) (fun y16 => Option.bind (idx y10 0) (fun y17 => Option.bind (appP s11.1 [(y16, y17, s11.2.2)]) (fun y19 => some (.inl ((y19, IntKind.wrap .i64 (s11.2.1 - 1), IntKind.wrap .i64 (s11.2.2 + 1)))))))) (some (.inl ((s11.1, s11.2.1, IntKind.wrap .i64 (s11.2.2 + 1)))))))) (Option.map .inr (some (.inl ((s11.1, IntKind.wrap .i64 (s7.2 + 1))))))) (s7.1, IntKind.wrap .i64 (2 - (y10.length : Int)), 0)))) (Option.map .inr (some s7.1))) (y2, 0))))))

theorem s_Repairs_walk (w : World) (a0 : T_Catalog) (a1 : T_Ups) (a2 : TL Bool) (h0 : GT.rd w [] a0) (h1 : GT.rd w [] a1) (h2 : GT.rd w [] a2) (r : (List D_Copy)) (hp : s_Repairs (GT.dat a0) (GT.dat a1) (GT.dat a2) = some r) : Spec Tryz.prog 6 [.agg (GT.cells a0).toArray, .agg (GT.cells a1).toArray, (TL.hdr a2)].toArray w [] (fun v M => ∃ (x0 : TL T_Copy), v = (TL.hdr x0) ∧ GT.dat x0 = r ∧ M = [treeH x0]) := by
  obtain ⟨a1_1, a1_2⟩ := a1
  change Spec _ _ ([Value.agg #[(TL.hdr a0)], Value.agg #[.int .i64 a1_1, (TL.hdr a1_2)], (TL.hdr a2)] : List Value).toArray w [] _
  refine Spec.intro Tryz.func6 rfl Tryz.ntmps6 rfl ?_
  unfold s_Repairs at hp
  try dsimp only [dat_pair, dat_int, dat_bool, dat_str] at hp
  refine W_seq ?_
  refine W_region ?_
  refine L_box rfl rfl (fun bk3 => ?_)
  refine L_box rfl rfl (fun bk4 => ?_)
  refine L_assign (v := (TL.hdr (TL.nil T_Copy 0))) rfl rfl ?_
  refine L_nil ?_
  refine W_seq ?_
  refine W_region ?_
  have ho := hp; clear hp; obtain ⟨y2, hy2, hp⟩ := bind_any ho; clear ho
  refine L_mk0 T_Copy rfl el31 (fun X1 hdX1 => ?_)
  obtain rfl : GT.dat X1 = y2 := hdX1.trans (Option.some.inj hy2)
  clear hy2 hdX1
  refine L_assign rfl rfl ?_
  refine L_nil ?_
  refine W_seq ?_
  refine W_seq ?_
  have ho := hp; clear hp; obtain ⟨y3, hy3, hp⟩ := bind_any ho; clear ho
  have ho := hp; clear hp; obtain ⟨y4, hy4, hp⟩ := gb_any ho; clear ho
  refine W_D0 [26] mix (by kernel_rfl) rfl ?_
  refine D_loadW GC.none (OpV.t rfl) (fun hg => RdC.blk (by first | (with_reducible repeat (first | exact List.Mem.head _ | apply List.Mem.tail)); done | (repeat (first | exact List.Mem.head _ | apply List.Mem.tail)))) (by exact agg35) ?_
  refine D_callX GC.none fn22 (OpVs.cons (OpV.t rfl) (OpVs.nil)) (by exact fun hg w F hF hM => s_CatOk_walk w a0 (RdT.nowS (RdT.old h0) hF hM) _ hy3) ?_
  refine D_not GC.none (OpV.t rfl) ?_
  refine D_move GC.none (OpV.t rfl) ?_
  refine D_loadW (GC.some rfl rfl) (OpV.t rfl) (fun hg => RdC.blk (by first | (with_reducible repeat (first | exact List.Mem.head _ | apply List.Mem.tail)); done | (repeat (first | exact List.Mem.head _ | apply List.Mem.tail)))) (by exact agg39) ?_
  refine D_callX (GC.some rfl rfl) fn23 (OpVs.cons (OpV.s rfl) (OpVs.nil)) (by exact fun hg w F hF hM => s_UpsOk_walk w (a1_1, a1_2) (RdT.nowS (RdT.pair RdT.int (RdT.old h1.2)) hF hM) _ (hy4 (gnot hg.2))) ?_
  refine D_not (GC.some rfl rfl) (OpV.s rfl) ?_
  refine D_or (cy := _) GC.none (OpV.t rfl) (OpV.s rfl) (fun h hb => ⟨h, hb⟩) ?_
  refine D_move GC.none (OpV.t rfl) ?_
  refine D_move (GC.some rfl rfl) (OpV.t rfl) ?_
  refine D_lenP (X := a2) (GC.some rfl rfl) (OpV.s rfl) el28 ?_
  refine D_bin (GC.some rfl rfl) (OpV.s rfl) OpV.c (fun hg => bv_neq) ?_
  refine D_or (cy := _) GC.none (OpV.t rfl) (OpV.s rfl) (fun h hb => ⟨h, hb⟩) ?_
  refine DV_nil ?_
  refine Give_is rfl rfl ?_
  refine Give_drop rfl ?_
  refine Give_drop rfl ?_
  refine Give_drop rfl ?_
  refine Give_drop rfl ?_
  refine Give_drop rfl ?_
  refine Give_drop rfl ?_
  refine Give_drop rfl ?_
  refine Give_drop rfl ?_
  refine Give_drop rfl ?_
  refine Give_drop rfl ?_
  refine Give_drop rfl ?_
  refine Give_drop rfl ?_
  refine Give_nil ?_
  refine W_weaken (l' := [(2, _), (3, _), (4, _), (7, _), (26, _)]) (Sub.cons rfl (Sub.cons rfl (Sub.cons rfl (Sub.cons rfl (Sub.cons rfl (Sub.nil _)))))) (MSub.refl _) ?_
  refine W_cond rfl (fun hc5 => ?_) (fun hc5 => ?_)
  · skip
    replace hp := cond_t hc5 hp
    refine W_seq ?_
    refine W_region ?_
    refine L_move rfl rfl ?_
    refine L_assign rfl rfl ?_
    refine L_nil ?_
    obtain rfl := Option.some.inj hp
    refine W_ret ?_
    refine res1 rfl (ResOK.tmp rfl) ⟨X1, rfl, rfl, rfl⟩ (MSub.cons (by first | (with_reducible repeat (first | exact Pick.here _ | apply Pick.there)); done | (repeat (first | exact Pick.here _ | apply Pick.there))) (MSub.nil _))
  · skip
    replace hp := cond_f hc5 hp
    refine W_skip ?_
    refine W_seq ?_
    refine W_region ?_
    refine L_loadW rfl rfl (RdC.blk (by first | (with_reducible repeat (first | exact List.Mem.head _ | apply List.Mem.tail)); done | (repeat (first | exact List.Mem.head _ | apply List.Mem.tail)))) (by exact agg35) ?_
    have ho := hp; clear hp; obtain ⟨y6, hy6, hp⟩ := bind_any ho; clear ho
    refine L_callR rfl fn24 rfl (by exact fun w hw => s_AllChunks_walk w a0 (RdT.now (RdT.old h0) hw) _ hy6) ?_
    rintro vy6 My6 ⟨y6x0, hvy6, hdy6, rfl⟩
    subst hvy6
    subst hdy6
    simp only [cells_pair, cells_int, cells_bool, cells_str, cells_TL, List.cons_append, List.nil_append]
    try dsimp only [dat_pair, dat_int, dat_bool, dat_str] at hp
    refine L_assign rfl rfl ?_
    refine L_nil ?_
    refine W_seq ?_
    refine W_seq ?_
    refine W_region ?_
    refine L_assign rfl rfl ?_
    refine L_nil ?_
    refine W_block ?_
    refine W_while (σ := (TL T_Copy) × Int) GT.dat (fun ((v7_0, v7_1) : (TL T_Copy) × Int) => [(7, (TL.hdr v7_0)), (9, .int .i64 v7_1)]) (fun ((v7_0, v7_1) : (TL T_Copy) × Int) => [treeH v7_0]) [(2, _), (4, _), (8, _)] [blk bk4 _ _, treeH y6x0] (X1, 0) hp (Sub.cons rfl (Sub.cons rfl (Sub.cons rfl (Sub.cons rfl (Sub.cons rfl (Sub.nil _)))))) (MSub.cons (by first | (with_reducible repeat (first | exact Pick.here _ | apply Pick.there)); done | (repeat (first | exact Pick.here _ | apply Pick.there))) (MSub.cons (by first | (with_reducible repeat (first | exact Pick.here _ | apply Pick.there)); done | (repeat (first | exact Pick.here _ | apply Pick.there))) (MSub.cons (by first | (with_reducible repeat (first | exact Pick.here _ | apply Pick.there)); done | (repeat (first | exact Pick.here _ | apply Pick.there))) (MSub.nil _)))) ?_
    clear hp
    rintro ⟨v7_0, v7_1⟩ x7 hp hx7
    try dsimp only [dat_pair, dat_int, dat_bool, dat_str] at hp
    refine W_weaken (l' := [(2, _), (4, _), (7, _), (8, _), (9, _)]) (Sub.cons rfl (Sub.cons rfl (Sub.cons rfl (Sub.cons rfl (Sub.cons rfl (Sub.nil _)))))) (M' := [_, _, _]) (MSub.cons (by first | (with_reducible repeat (first | exact Pick.here _ | apply Pick.there)); done | (repeat (first | exact Pick.here _ | apply Pick.there))) (MSub.cons (by first | (with_reducible repeat (first | exact Pick.here _ | apply Pick.there)); done | (repeat (first | exact Pick.here _ | apply Pick.there))) (MSub.cons (by first | (with_reducible repeat (first | exact Pick.here _ | apply Pick.there)); done | (repeat (first | exact Pick.here _ | apply Pick.there))) (MSub.nil _)))) ?_
    refine W_seq ?_
    refine W_seq ?_
    refine W_region ?_
    refine L_move rfl rfl ?_
    refine L_move rfl rfl ?_
    refine L_lenP (X := y6x0) rfl rfl el55 ?_
    refine L_binV rfl rfl rfl bv_lss ?_
    refine L_nil ?_
    refine W_weaken (l' := [(2, _), (4, _), (7, _), (8, _), (9, _), (33, _)]) (Sub.cons rfl (Sub.cons rfl (Sub.cons rfl (Sub.cons rfl (Sub.cons rfl (Sub.cons rfl (Sub.nil _))))))) (MSub.refl _) ?_
    refine W_cond rfl (fun hc8 => ?_) (fun hc8 => ?_)
    · skip
      replace hp := cond_t hc8 hp
      refine W_skip ?_
      refine W_seq ?_
      refine W_block ?_
      refine W_seq ?_
      have ho := hp; clear hp; obtain ⟨u9, hy9, hp⟩ := idx_bind ho; clear ho
      refine W_DS (pre := [_, _, _, _, _, _]) (suf := [_, _]) [36, 40, 41] [] _ (perm_nil_left _) mix (by kernel_rfl) (by kernel_rfl) rfl ?_
      refine D_loadW GC.none (OpV.t rfl) (fun hg => RdC.blk (by first | (with_reducible repeat (first | exact List.Mem.head _ | apply List.Mem.tail)); done | (repeat (first | exact List.Mem.head _ | apply List.Mem.tail)))) (by exact agg39) ?_
      refine D_move GC.none (OpV.t rfl) ?_
      refine D_move GC.none (OpV.t rfl) ?_
      refine D_idxA (X := y6x0) GC.none (OpV.t rfl) (OpV.t rfl) el55 (RdT.tree (by first | (with_reducible repeat (first | exact List.Mem.head _ | apply List.Mem.tail)); done | (repeat (first | exact List.Mem.head _ | apply List.Mem.tail)))) (fun _ => hy9) ?_
      refine D_load0 GC.none (OpV.t rfl) (fun hg => RdT.at (RdT.tree (by first | (with_reducible repeat (first | exact List.Mem.head _ | apply List.Mem.tail)); done | (repeat (first | exact List.Mem.head _ | apply List.Mem.tail)))) (hy9).2) one9 rfl ?_
      refine D_move GC.none (OpV.t rfl) ?_
      refine DV_nil ?_
      refine Give_is rfl rfl ?_
      refine Give_is rfl rfl ?_
      refine Give_drop rfl ?_
      refine Give_drop rfl ?_
      refine Give_drop rfl ?_
      refine Give_is rfl rfl ?_
      refine Give_nil ?_
      have ho := hp; clear hp; obtain ⟨y10, hy10, hp⟩ := bind_any ho; clear ho
      refine L_callR rfl fn25 rfl (by exact fun w hw => s_l20Have_walk w (a1_1, a1_2) u9 a2 (RdT.now (RdT.pair RdT.int (RdT.old h1.2)) hw) (RdT.now (RdT.old h2) hw) _ hy10) ?_
      rintro vy10 My10 ⟨y10x0, hvy10, hdy10, rfl⟩
      subst hvy10
      subst hdy10
      simp only [cells_pair, cells_int, cells_bool, cells_str, cells_TL, List.cons_append, List.nil_append]
      try dsimp only [dat_pair, dat_int, dat_bool, dat_str] at hp
      refine L_assign rfl rfl ?_
      refine L_nil ?_
      refine W_seq ?_
      refine W_region ?_
      refine L_move rfl rfl ?_
      refine L_lenP (X := y10x0) rfl rfl el57 ?_
      refine L_binV rfl rfl rfl bv_sub ?_
      refine L_assign rfl rfl ?_
      refine L_nil ?_
      refine W_seq ?_
      refine W_region ?_
      refine L_assign rfl rfl ?_
      refine L_nil ?_
      refine W_block ?_
      refine W_while (σ := (TL T_Copy) × Int × Int) GT.dat (fun ((v11_0, v11_1, v11_2) : (TL T_Copy) × Int × Int) => [(7, (TL.hdr v11_0)), (11, .int .i64 v11_1), (12, .int .i64 v11_2)]) (fun ((v11_0, v11_1, v11_2) : (TL T_Copy) × Int × Int) => [treeH v11_0]) [(2, _), (4, _), (8, _), (9, _), (10, _)] [blk bk4 _ _, treeH y6x0, treeH y10x0] (v7_0, IntKind.wrap .i64 (2 - ((GT.dat y10x0).length : Int)), 0) hp (Sub.cons rfl (Sub.cons rfl (Sub.cons rfl (Sub.cons rfl (Sub.cons rfl (Sub.cons rfl (Sub.cons rfl (Sub.cons rfl (Sub.nil _))))))))) (MSub.cons (by first | (with_reducible repeat (first | exact Pick.here _ | apply Pick.there)); done | (repeat (first | exact Pick.here _ | apply Pick.there))) (MSub.cons (by first | (with_reducible repeat (first | exact Pick.here _ | apply Pick.there)); done | (repeat (first | exact Pick.here _ | apply Pick.there))) (MSub.cons (by first | (with_reducible repeat (first | exact Pick.here _ | apply Pick.there)); done | (repeat (first | exact Pick.here _ | apply Pick.there))) (MSub.cons (by first | (with_reducible repeat (first | exact Pick.here _ | apply Pick.there)); done | (repeat (first | exact Pick.here _ | apply Pick.there))) (MSub.nil _))))) ?_
      clear hp
      rintro ⟨v11_0, v11_1, v11_2⟩ x11 hp hx11
      try dsimp only [dat_pair, dat_int, dat_bool, dat_str] at hp
      refine W_weaken (l' := [(2, _), (4, _), (7, _), (8, _), (9, _), (10, _), (11, _), (12, _)]) (Sub.cons rfl (Sub.cons rfl (Sub.cons rfl (Sub.cons rfl (Sub.cons rfl (Sub.cons rfl (Sub.cons rfl (Sub.cons rfl (Sub.nil _))))))))) (M' := [_, _, _, _]) (MSub.cons (by first | (with_reducible repeat (first | exact Pick.here _ | apply Pick.there)); done | (repeat (first | exact Pick.here _ | apply Pick.there))) (MSub.cons (by first | (with_reducible repeat (first | exact Pick.here _ | apply Pick.there)); done | (repeat (first | exact Pick.here _ | apply Pick.there))) (MSub.cons (by first | (with_reducible repeat (first | exact Pick.here _ | apply Pick.there)); done | (repeat (first | exact Pick.here _ | apply Pick.there))) (MSub.cons (by first | (with_reducible repeat (first | exact Pick.here _ | apply Pick.there)); done | (repeat (first | exact Pick.here _ | apply Pick.there))) (MSub.nil _))))) ?_
      refine W_seq ?_
      refine W_seq ?_
      refine W_D0 [56] mix (by kernel_rfl) rfl ?_
      refine D_move GC.none (OpV.t rfl) ?_
      refine D_bin GC.none (OpV.t rfl) OpV.c (fun hg => bv_lss) ?_
      refine D_move GC.none (OpV.t rfl) ?_
      refine D_move (GC.some rfl rfl) (OpV.t rfl) ?_
      refine D_lenP (X := y10x0) (GC.some rfl rfl) (OpV.s rfl) el57 ?_
      refine D_bin (GC.some rfl rfl) (OpV.s rfl) OpV.c (fun hg => bv_gtr) ?_
      refine D_and (cy := _) GC.none (OpV.t rfl) (OpV.s rfl) (fun h hb => ⟨h, hb⟩) ?_
      refine D_move GC.none (OpV.t rfl) ?_
      refine D_move (GC.some rfl rfl) (OpV.t rfl) ?_
      refine D_bin (GC.some rfl rfl) (OpV.s rfl) OpV.c (fun hg => bv_gtr) ?_
      refine D_and (cy := _) GC.none (OpV.t rfl) (OpV.s rfl) (fun h hb => ⟨h, hb⟩) ?_
      refine DV_nil ?_
      refine Give_is rfl rfl ?_
      refine Give_drop rfl ?_
      refine Give_drop rfl ?_
      refine Give_drop rfl ?_
      refine Give_drop rfl ?_
      refine Give_drop rfl ?_
      refine Give_drop rfl ?_
      refine Give_drop rfl ?_
      refine Give_drop rfl ?_
      refine Give_drop rfl ?_
      refine Give_drop rfl ?_
      refine Give_nil ?_
      refine W_weaken (l' := [(2, _), (4, _), (7, _), (8, _), (9, _), (10, _), (11, _), (12, _), (56, _)]) (Sub.cons rfl (Sub.cons rfl (Sub.cons rfl (Sub.cons rfl (Sub.cons rfl (Sub.cons rfl (Sub.cons rfl (Sub.cons rfl (Sub.cons rfl (Sub.nil _)))))))))) (MSub.refl _) ?_
      refine W_cond rfl (fun hc12 => ?_) (fun hc12 => ?_)
      · skip
        replace hp := cond_t hc12 hp
        refine W_skip ?_
        refine W_seq ?_
        refine W_block ?_
        refine W_seq ?_
        have ho := hp; clear hp; obtain ⟨u13, hy13, hp⟩ := idx_bind ho; clear ho
        have ho := hp; clear hp; obtain ⟨y14, hy14, hp⟩ := gb_any ho; clear ho
        refine W_D0 [68] mix (by kernel_rfl) rfl ?_
        refine D_move GC.none (OpV.t rfl) ?_
        refine D_move GC.none (OpV.t rfl) ?_
        refine D_idxA (X := a2) GC.none (OpV.t rfl) (OpV.t rfl) el28 (RdT.old h2) (fun _ => hy13) ?_
        refine D_load0 GC.none (OpV.t rfl) (fun hg => RdT.at (RdT.old h2) (hy13).2) one4 rfl ?_
        refine D_move GC.none (OpV.t rfl) ?_
        refine D_move (GC.some rfl rfl) (OpV.t rfl) ?_
        refine D_move (GC.some rfl rfl) (OpV.t rfl) ?_
        refine D_callX (GC.some rfl rfl) fn26 (OpVs.cons (OpV.s rfl) (OpVs.cons (OpV.s rfl) (OpVs.nil))) (by exact fun hg w F hF hM => s_l18Has_walk w y10x0 v11_2 (RdT.nowS (RdT.tree (by first | (with_reducible repeat (first | exact List.Mem.head _ | apply List.Mem.tail)); done | (repeat (first | exact List.Mem.head _ | apply List.Mem.tail)))) hF hM) _ (hy14 hg.2)) ?_
        refine D_not (GC.some rfl rfl) (OpV.s rfl) ?_
        refine D_and (cy := _) GC.none (OpV.t rfl) (OpV.s rfl) (fun h hb => ⟨h, hb⟩) ?_
        refine DV_nil ?_
        refine Give_is rfl rfl ?_
        refine Give_drop rfl ?_
        refine Give_drop rfl ?_
        refine Give_drop rfl ?_
        refine Give_drop rfl ?_
        refine Give_drop rfl ?_
        refine Give_drop rfl ?_
        refine Give_drop rfl ?_
        refine Give_drop rfl ?_
        refine Give_drop rfl ?_
        refine Give_nil ?_
        refine W_weaken (l' := [(2, _), (4, _), (7, _), (8, _), (9, _), (10, _), (11, _), (12, _), (68, _)]) (Sub.cons rfl (Sub.cons rfl (Sub.cons rfl (Sub.cons rfl (Sub.cons rfl (Sub.cons rfl (Sub.cons rfl (Sub.cons rfl (Sub.cons rfl (Sub.nil _)))))))))) (MSub.refl _) ?_
        refine W_cond rfl (fun hc15 => ?_) (fun hc15 => ?_)
        · skip
          replace hp := cond_t hc15 hp
          refine W_seq ?_
          have ho := hp; clear hp; obtain ⟨u16, hy16, hp⟩ := idx_bind ho; clear ho
          obtain rfl : u9 = u16 := Option.some.inj (hy9.2.symm.trans hy16.2)
          have ho := hp; clear hp; obtain ⟨u17, hy17, hp⟩ := idx_bind ho; clear ho
          refine W_DS (pre := [_, _, _, _, _, _, _, _, _, _, _]) (suf := [_, _]) [69, 79] [] _ (perm_nil_left _) mix (by kernel_rfl) (by kernel_rfl) rfl ?_
          refine D_move GC.none (OpV.t rfl) ?_
          refine D_move GC.none (OpV.t rfl) ?_
          refine D_move GC.none (OpV.t rfl) ?_
          refine D_idxA (X := y6x0) GC.none (OpV.t rfl) (OpV.t rfl) el55 (RdT.tree (by first | (with_reducible repeat (first | exact List.Mem.head _ | apply List.Mem.tail)); done | (repeat (first | exact List.Mem.head _ | apply List.Mem.tail)))) (fun _ => hy9) ?_
          refine D_load0 GC.none (OpV.t rfl) (fun hg => RdT.at (RdT.tree (by first | (with_reducible repeat (first | exact List.Mem.head _ | apply List.Mem.tail)); done | (repeat (first | exact List.Mem.head _ | apply List.Mem.tail)))) (hy9).2) one9 rfl ?_
          refine D_move GC.none (OpV.t rfl) ?_
          refine D_idxA (X := y10x0) GC.none (OpV.t rfl) OpV.c el57 (RdT.tree (by first | (with_reducible repeat (first | exact List.Mem.head _ | apply List.Mem.tail)); done | (repeat (first | exact List.Mem.head _ | apply List.Mem.tail)))) (fun _ => hy17) ?_
          refine D_load0 GC.none (OpV.t rfl) (fun hg => RdT.at (RdT.tree (by first | (with_reducible repeat (first | exact List.Mem.head _ | apply List.Mem.tail)); done | (repeat (first | exact List.Mem.head _ | apply List.Mem.tail)))) (hy17).2) one3 rfl ?_
          refine D_move GC.none (OpV.t rfl) ?_
          refine D_build (xs := [(0, .tmp 73), (1, .tmp 76), (2, .tmp 77)]) (ps := [(0, .string u9), (1, .int .i64 u17), (2, .int .i64 v11_2)]) (cs := [.string u9, .int .i64 u17, .int .i64 v11_2]) (OpVp.cons (OpV.t rfl) (OpVp.cons (OpV.t rfl) (OpVp.cons (OpV.t rfl) (OpVp.nil)))) bld61 rfl ?_
          refine D_bs1 (OpV.t rfl) el31 rfl (by decide) (by decide) rfl ?_
          refine DV_nil ?_
          refine Give_R rfl rfl ?_
          rintro vr79 Mr79 ⟨bb79, hvr79, rfl⟩
          subst hvr79
          simp only [List.cons_append, List.nil_append]
          refine Give_drop rfl ?_
          refine Give_drop rfl ?_
          refine Give_drop rfl ?_
          refine Give_drop rfl ?_
          refine Give_drop rfl ?_
          refine Give_drop rfl ?_
          refine Give_drop rfl ?_
          refine Give_drop rfl ?_
          refine Give_drop rfl ?_
          refine Give_is rfl rfl ?_
          refine Give_nil ?_
          have ho := hp; clear hp; obtain ⟨y19, hy19, hp⟩ := bind_any ho; clear ho
          refine L_app1F (X := v11_0) ((u9, u17, v11_2) : T_Copy) rfl rfl rfl el31 rfl rfl (by first | (with_reducible repeat (first | exact Pick.here _ | apply Pick.there)); done | (repeat (first | exact Pick.here _ | apply Pick.there))) (by first | (with_reducible repeat (first | exact List.Mem.head _ | apply List.Mem.tail)); done | (repeat (first | exact List.Mem.head _ | apply List.Mem.tail)))  hy19 (by decide) (fun X18 hdX18 => ?_)
          subst hdX18
          refine L_assign rfl rfl ?_
          refine L_nil ?_
          refine W_region ?_
          refine L_move rfl rfl ?_
          refine L_binV rfl rfl rfl bv_sub ?_
          refine L_assign rfl rfl ?_
          refine L_nil ?_
          refine W_region ?_
          refine L_move rfl rfl ?_
          refine L_binV rfl rfl rfl bv_add ?_
          refine L_assign rfl rfl ?_
          refine L_nil ?_
          exact ⟨(X18, IntKind.wrap .i64 (v11_1 - 1), IntKind.wrap .i64 (v11_2 + 1)), (Sub.cons rfl (Sub.cons rfl (Sub.cons rfl (Sub.cons rfl (Sub.cons rfl (Sub.cons rfl (Sub.cons rfl (Sub.cons rfl (Sub.nil _))))))))), (Arr.sub (MSub.cons (by first | (with_reducible repeat (first | exact Pick.here _ | apply Pick.there)); done | (repeat (first | exact Pick.here _ | apply Pick.there))) (MSub.cons (by first | (with_reducible repeat (first | exact Pick.here _ | apply Pick.there)); done | (repeat (first | exact Pick.here _ | apply Pick.there))) (MSub.cons (by first | (with_reducible repeat (first | exact Pick.here _ | apply Pick.there)); done | (repeat (first | exact Pick.here _ | apply Pick.there))) (MSub.cons (by first | (with_reducible repeat (first | exact Pick.here _ | apply Pick.there)); done | (repeat (first | exact Pick.here _ | apply Pick.there))) (MSub.nil _)))))), some_eq hp⟩
        · skip
          replace hp := cond_f hc15 hp
          refine W_skip ?_
          refine W_region ?_
          refine L_move rfl rfl ?_
          refine L_binV rfl rfl rfl bv_add ?_
          refine L_assign rfl rfl ?_
          refine L_nil ?_
          exact ⟨(v11_0, v11_1, IntKind.wrap .i64 (v11_2 + 1)), (Sub.cons rfl (Sub.cons rfl (Sub.cons rfl (Sub.cons rfl (Sub.cons rfl (Sub.cons rfl (Sub.cons rfl (Sub.cons rfl (Sub.nil _))))))))), (Arr.sub (MSub.cons (by first | (with_reducible repeat (first | exact Pick.here _ | apply Pick.there)); done | (repeat (first | exact Pick.here _ | apply Pick.there))) (MSub.cons (by first | (with_reducible repeat (first | exact Pick.here _ | apply Pick.there)); done | (repeat (first | exact Pick.here _ | apply Pick.there))) (MSub.cons (by first | (with_reducible repeat (first | exact Pick.here _ | apply Pick.there)); done | (repeat (first | exact Pick.here _ | apply Pick.there))) (MSub.cons (by first | (with_reducible repeat (first | exact Pick.here _ | apply Pick.there)); done | (repeat (first | exact Pick.here _ | apply Pick.there))) (MSub.nil _)))))), some_eq hp⟩
      · skip
        replace hp := cond_f hc12 hp
        refine W_exit ?_
        have ho := hp; clear hp; obtain ⟨a20, hp, hx_a20⟩ := map_any ho; clear ho
        obtain rfl := hx11 _ hx_a20
        refine W_region ?_
        refine L_move rfl rfl ?_
        refine L_binV rfl rfl rfl bv_add ?_
        refine L_assign rfl rfl ?_
        refine L_nil ?_
        exact ⟨(v11_0, IntKind.wrap .i64 (v7_1 + 1)), (Sub.cons rfl (Sub.cons rfl (Sub.cons rfl (Sub.cons rfl (Sub.cons rfl (Sub.nil _)))))), (Arr.sub (MSub.cons (by first | (with_reducible repeat (first | exact Pick.here _ | apply Pick.there)); done | (repeat (first | exact Pick.here _ | apply Pick.there))) (MSub.cons (by first | (with_reducible repeat (first | exact Pick.here _ | apply Pick.there)); done | (repeat (first | exact Pick.here _ | apply Pick.there))) (MSub.cons (by first | (with_reducible repeat (first | exact Pick.here _ | apply Pick.there)); done | (repeat (first | exact Pick.here _ | apply Pick.there))) (MSub.nil _))))), some_eq hp⟩
    · skip
      replace hp := cond_f hc8 hp
      refine W_exit ?_
      have ho := hp; clear hp; obtain ⟨a21, hp, hx_a21⟩ := map_any ho; clear ho
      obtain rfl := hx7 _ hx_a21
      refine W_seq ?_
      refine W_region ?_
      refine L_move rfl rfl ?_
      refine L_assign rfl rfl ?_
      refine L_nil ?_
      obtain rfl := Option.some.inj hp
      refine W_ret ?_
      refine res1 rfl (ResOK.tmp rfl) ⟨v7_0, rfl, rfl, rfl⟩ (MSub.cons (by first | (with_reducible repeat (first | exact Pick.here _ | apply Pick.there)); done | (repeat (first | exact Pick.here _ | apply Pick.there))) (MSub.nil _))

noncomputable def i_Repairs (a0 : D_Catalog) (a1 : D_Ups) (a2 : List Bool) : Option (List D_Copy) :=
  Option.bind (i_CatOk a0) (fun y1 => gb (!(!y1)) (i_UpsOk (a1.1, a1.2)) (fun y2 => cond (((!y1) || (!y2)) || (!decide ((a2.length : Int) = 3))) (some ([] : List D_Copy)) (Option.bind (some ([] : List D_Copy)) (fun y5 => Option.bind (i_AllChunks a0) (fun y6 => whileP (fun s7 : (List D_Copy) × Int => cond (decide (s7.2 < (y6.length : Int))) (Option.bind (idx y6 s7.2) (fun y9 => Option.bind (i_Ups_nodes (a1.1, a1.2) y9) (fun y10 => Option.bind (i_upOf y10 a2) (fun y11 => cond (decide ((y11.length : Int) = 0)) (some (.inl ((s7.1, IntKind.wrap .i64 (s7.2 + 1))))) (whileP (fun s13 : (List D_Copy) × Int × Int => cond ((decide (s13.2.2 < 3)) && (decide (0 < s13.2.1))) (Option.bind (idx a2 s13.2.2) (fun y15 => gb y15 (sl_Contains_intint y10 s13.2.2) (fun y16 => cond (y15 && (!y16)) (Option.bind (idx y11 0) (fun y18 => Option.bind (appP s13.1 [(y9, y18, s13.2.2)]) (fun y20 => some (.inl ((y20, IntKind.wrap .i64 (s13.2.1 - 1), IntKind.wrap .i64 (s13.2.2 + 1))))))) (some (.inl ((s13.1, s13.2.1, IntKind.wrap .i64 (s13.2.2 + 1)))))))) (Option.map .inr (some (.inl ((s13.1, IntKind.wrap .i64 (s7.2 + 1))))))) (s7.1, IntKind.wrap .i64 (2 - (y11.length : Int)), 0)))))) (Option.map .inr (some s7.1))) (y5, 0))))))

theorem i_Repairs_walk (w : World) (a0 : T_Catalog) (a1 : T_Ups) (a2 : TL Bool) (h0 : GT.rd w [] a0) (h1 : GT.rd w [] a1) (h2 : GT.rd w [] a2) (r : (List D_Copy)) (hp : i_Repairs (GT.dat a0) (GT.dat a1) (GT.dat a2) = some r) : Spec Tryz.prog 10 [.agg (GT.cells a0).toArray, .agg (GT.cells a1).toArray, (TL.hdr a2)].toArray w [] (fun v M => ∃ (x0 : TL T_Copy), v = (TL.hdr x0) ∧ GT.dat x0 = r ∧ M = [treeH x0]) := by
  obtain ⟨a1_1, a1_2⟩ := a1
  change Spec _ _ ([Value.agg #[(TL.hdr a0)], Value.agg #[.int .i64 a1_1, (TL.hdr a1_2)], (TL.hdr a2)] : List Value).toArray w [] _
  refine Spec.intro Tryz.func10 rfl Tryz.ntmps10 rfl ?_
  unfold i_Repairs at hp
  try dsimp only [dat_pair, dat_int, dat_bool, dat_str] at hp
  refine W_seq ?_
  refine W_region ?_
  refine L_box rfl rfl (fun bk3 => ?_)
  refine L_box rfl rfl (fun bk4 => ?_)
  refine L_assign (v := (TL.hdr (TL.nil T_Copy 0))) rfl rfl ?_
  refine L_nil ?_
  refine W_seq ?_
  refine W_seq ?_
  have ho := hp; clear hp; obtain ⟨y1, hy1, hp⟩ := bind_any ho; clear ho
  have ho := hp; clear hp; obtain ⟨y2, hy2, hp⟩ := gb_any ho; clear ho
  refine W_D0 [26] mix (by kernel_rfl) rfl ?_
  refine D_loadW GC.none (OpV.t rfl) (fun hg => RdC.blk (by first | (with_reducible repeat (first | exact List.Mem.head _ | apply List.Mem.tail)); done | (repeat (first | exact List.Mem.head _ | apply List.Mem.tail)))) (by exact agg35) ?_
  refine D_callX GC.none fn29 (OpVs.cons (OpV.t rfl) (OpVs.nil)) (by exact fun hg w F hF hM => i_CatOk_walk w a0 (RdT.nowS (RdT.old h0) hF hM) _ hy1) ?_
  refine D_not GC.none (OpV.t rfl) ?_
  refine D_move GC.none (OpV.t rfl) ?_
  refine D_loadW (GC.some rfl rfl) (OpV.t rfl) (fun hg => RdC.blk (by first | (with_reducible repeat (first | exact List.Mem.head _ | apply List.Mem.tail)); done | (repeat (first | exact List.Mem.head _ | apply List.Mem.tail)))) (by exact agg39) ?_
  refine D_callX (GC.some rfl rfl) fn30 (OpVs.cons (OpV.s rfl) (OpVs.nil)) (by exact fun hg w F hF hM => i_UpsOk_walk w (a1_1, a1_2) (RdT.nowS (RdT.pair RdT.int (RdT.old h1.2)) hF hM) _ (hy2 (gnot hg.2))) ?_
  refine D_not (GC.some rfl rfl) (OpV.s rfl) ?_
  refine D_or (cy := _) GC.none (OpV.t rfl) (OpV.s rfl) (fun h hb => ⟨h, hb⟩) ?_
  refine D_move GC.none (OpV.t rfl) ?_
  refine D_move (GC.some rfl rfl) (OpV.t rfl) ?_
  refine D_lenP (X := a2) (GC.some rfl rfl) (OpV.s rfl) el28 ?_
  refine D_bin (GC.some rfl rfl) (OpV.s rfl) OpV.c (fun hg => bv_neq) ?_
  refine D_or (cy := _) GC.none (OpV.t rfl) (OpV.s rfl) (fun h hb => ⟨h, hb⟩) ?_
  refine DV_nil ?_
  refine Give_is rfl rfl ?_
  refine Give_drop rfl ?_
  refine Give_drop rfl ?_
  refine Give_drop rfl ?_
  refine Give_drop rfl ?_
  refine Give_drop rfl ?_
  refine Give_drop rfl ?_
  refine Give_drop rfl ?_
  refine Give_drop rfl ?_
  refine Give_drop rfl ?_
  refine Give_drop rfl ?_
  refine Give_drop rfl ?_
  refine Give_drop rfl ?_
  refine Give_nil ?_
  refine W_weaken (l' := [(2, _), (3, _), (4, _), (26, _)]) (Sub.cons rfl (Sub.cons rfl (Sub.cons rfl (Sub.cons rfl (Sub.nil _))))) (MSub.refl _) ?_
  refine W_cond rfl (fun hc3 => ?_) (fun hc3 => ?_)
  · skip
    replace hp := cond_t hc3 hp
    refine W_seq ?_
    refine W_region ?_
    refine L_assign (v := (TL.hdr (TL.nil T_Copy 0))) rfl rfl ?_
    refine L_nil ?_
    obtain rfl := Option.some.inj hp
    refine W_conv (M' := treeH (TL.nil T_Copy 0) :: _) (fun w h => addNilT (τ := T_Copy) 0 h) ?_
    refine W_ret ?_
    refine res1 rfl (ResOK.tmp rfl) ⟨(TL.nil T_Copy 0), rfl, rfl, rfl⟩ (MSub.cons (by first | (with_reducible repeat (first | exact Pick.here _ | apply Pick.there)); done | (repeat (first | exact Pick.here _ | apply Pick.there))) (MSub.nil _))
  · skip
    replace hp := cond_f hc3 hp
    refine W_skip ?_
    refine W_seq ?_
    refine W_region ?_
    have ho := hp; clear hp; obtain ⟨y5, hy5, hp⟩ := bind_any ho; clear ho
    refine L_mk0 T_Copy rfl el31 (fun X4 hdX4 => ?_)
    obtain rfl : GT.dat X4 = y5 := hdX4.trans (Option.some.inj hy5)
    clear hy5 hdX4
    refine L_assign rfl rfl ?_
    refine L_nil ?_
    refine W_seq ?_
    refine W_seq ?_
    refine W_region ?_
    refine L_loadW rfl rfl (RdC.blk (by first | (with_reducible repeat (first | exact List.Mem.head _ | apply List.Mem.tail)); done | (repeat (first | exact List.Mem.head _ | apply List.Mem.tail)))) (by exact agg35) ?_
    have ho := hp; clear hp; obtain ⟨y6, hy6, hp⟩ := bind_any ho; clear ho
    refine L_callR rfl fn31 rfl (by exact fun w hw => i_AllChunks_walk w a0 (RdT.now (RdT.old h0) hw) _ hy6) ?_
    rintro vy6 My6 ⟨y6x0, hvy6, hdy6, rfl⟩
    subst hvy6
    subst hdy6
    simp only [cells_pair, cells_int, cells_bool, cells_str, cells_TL, List.cons_append, List.nil_append]
    try dsimp only [dat_pair, dat_int, dat_bool, dat_str] at hp
    refine L_lenP (X := y6x0) rfl rfl el55 ?_
    refine L_move rfl rfl ?_
    refine L_nil ?_
    refine W_block ?_
    refine W_while (σ := (TL T_Copy) × Int) GT.dat (fun ((v7_0, v7_1) : (TL T_Copy) × Int) => [(7, (TL.hdr v7_0)), (31, .int .i64 v7_1)]) (fun ((v7_0, v7_1) : (TL T_Copy) × Int) => [treeH v7_0]) [(2, _), (4, _), (29, _), (30, _)] [blk bk4 _ _, treeH y6x0] (X4, 0) hp (Sub.cons rfl (Sub.cons rfl (Sub.cons rfl (Sub.cons rfl (Sub.cons rfl (Sub.cons rfl (Sub.nil _))))))) (MSub.cons (by first | (with_reducible repeat (first | exact Pick.here _ | apply Pick.there)); done | (repeat (first | exact Pick.here _ | apply Pick.there))) (MSub.cons (by first | (with_reducible repeat (first | exact Pick.here _ | apply Pick.there)); done | (repeat (first | exact Pick.here _ | apply Pick.there))) (MSub.cons (by first | (with_reducible repeat (first | exact Pick.here _ | apply Pick.there)); done | (repeat (first | exact Pick.here _ | apply Pick.there))) (MSub.nil _)))) ?_
    clear hp
    rintro ⟨v7_0, v7_1⟩ x7 hp hx7
    try dsimp only [dat_pair, dat_int, dat_bool, dat_str] at hp
    refine W_weaken (l' := [(2, _), (4, _), (7, _), (29, _), (30, _), (31, _)]) (Sub.cons rfl (Sub.cons rfl (Sub.cons rfl (Sub.cons rfl (Sub.cons rfl (Sub.cons rfl (Sub.nil _))))))) (M' := [_, _, _]) (MSub.cons (by first | (with_reducible repeat (first | exact Pick.here _ | apply Pick.there)); done | (repeat (first | exact Pick.here _ | apply Pick.there))) (MSub.cons (by first | (with_reducible repeat (first | exact Pick.here _ | apply Pick.there)); done | (repeat (first | exact Pick.here _ | apply Pick.there))) (MSub.cons (by first | (with_reducible repeat (first | exact Pick.here _ | apply Pick.there)); done | (repeat (first | exact Pick.here _ | apply Pick.there))) (MSub.nil _)))) ?_
    refine W_seq ?_
    refine W_region ?_
    refine L_binV rfl rfl rfl bv_lss ?_
    refine L_nil ?_
    refine W_seq ?_
    refine W_weaken (l' := [(2, _), (4, _), (7, _), (29, _), (30, _), (31, _), (32, _)]) (Sub.cons rfl (Sub.cons rfl (Sub.cons rfl (Sub.cons rfl (Sub.cons rfl (Sub.cons rfl (Sub.cons rfl (Sub.nil _)))))))) (MSub.refl _) ?_
    refine W_cond rfl (fun hc8 => ?_) (fun hc8 => ?_)
    · skip
      replace hp := cond_t hc8 hp
      refine W_skip ?_
      refine W_seq ?_
      refine W_block ?_
      refine W_seq ?_
      refine W_region ?_
      have ho := hp; clear hp; obtain ⟨u9, hy9, hp⟩ := idx_bind ho; clear ho
      refine L_idxA (X := y6x0) rfl rfl rfl el55 (RdT.tree (by first | (with_reducible repeat (first | exact List.Mem.head _ | apply List.Mem.tail)); done | (repeat (first | exact List.Mem.head _ | apply List.Mem.tail)))) hy9 ?_
      refine L_load0 rfl rfl (RdT.at (RdT.tree (by first | (with_reducible repeat (first | exact List.Mem.head _ | apply List.Mem.tail)); done | (repeat (first | exact List.Mem.head _ | apply List.Mem.tail)))) (hy9).2) one9 rfl ?_
      refine L_assign rfl rfl ?_
      refine L_nil ?_
      refine W_seq ?_
      refine W_region ?_
      refine L_loadW rfl rfl (RdC.blk (by first | (with_reducible repeat (first | exact List.Mem.head _ | apply List.Mem.tail)); done | (repeat (first | exact List.Mem.head _ | apply List.Mem.tail)))) (by exact agg39) ?_
      refine L_move rfl rfl ?_
      have ho := hp; clear hp; obtain ⟨y10, hy10, hp⟩ := bind_any ho; clear ho
      refine L_callR rfl fn32 rfl (by exact fun w hw => i_Ups_nodes_walk w (a1_1, a1_2) u9 (RdT.now (RdT.pair RdT.int (RdT.old h1.2)) hw) _ hy10) ?_
      rintro vy10 My10 ⟨y10x0, hvy10, hdy10, rfl, hby10x0⟩
      subst hvy10
      subst hdy10
      simp only [cells_pair, cells_int, cells_bool, cells_str, cells_TL, List.cons_append, List.nil_append]
      try dsimp only [dat_pair, dat_int, dat_bool, dat_str] at hp
      refine L_assign rfl rfl ?_
      refine L_nil ?_
      refine W_seq ?_
      refine W_region ?_
      refine L_move rfl rfl ?_
      refine L_move rfl rfl ?_
      have ho := hp; clear hp; obtain ⟨y11, hy11, hp⟩ := bind_any ho; clear ho
      refine L_callR rfl fn33 rfl (by exact fun w hw => i_upOf_walk w y10x0 a2 (RdT.now (RdT.map hby10x0 (RdT.pair RdT.int (RdT.old h1.2))) hw) (RdT.now (RdT.old h2) hw) _ hy11) ?_
      rintro vy11 My11 ⟨y11x0, hvy11, hdy11, rfl⟩
      subst hvy11
      subst hdy11
      simp only [cells_pair, cells_int, cells_bool, cells_str, cells_TL, List.cons_append, List.nil_append]
      try dsimp only [dat_pair, dat_int, dat_bool, dat_str] at hp
      refine L_assign rfl rfl ?_
      refine L_nil ?_
      refine W_seq ?_
      refine W_seq ?_
      refine W_region ?_
      refine L_move rfl rfl ?_
      refine L_lenP (X := y11x0) rfl rfl el57 ?_
      refine L_binV rfl rfl rfl bv_eql ?_
      refine L_nil ?_
      refine W_weaken (l' := [(2, _), (4, _), (7, _), (9, _), (10, _), (11, _), (29, _), (30, _), (31, _), (43, _)]) (Sub.cons rfl (Sub.cons rfl (Sub.cons rfl (Sub.cons rfl (Sub.cons rfl (Sub.cons rfl (Sub.cons rfl (Sub.cons rfl (Sub.cons rfl (Sub.cons rfl (Sub.nil _))))))))))) (MSub.refl _) ?_
      refine W_cond rfl (fun hc12 => ?_) (fun hc12 => ?_)
      · skip
        replace hp := cond_t hc12 hp
        refine W_exit ?_
        refine W_region ?_
        refine L_binV rfl rfl rfl bv_add ?_
        refine L_move rfl rfl ?_
        refine L_nil ?_
        exact ⟨(v7_0, IntKind.wrap .i64 (v7_1 + 1)), (Sub.cons rfl (Sub.cons rfl (Sub.cons rfl (Sub.cons rfl (Sub.cons rfl (Sub.cons rfl (Sub.nil _))))))), (Arr.sub (MSub.cons (by first | (with_reducible repeat (first | exact Pick.here _ | apply Pick.there)); done | (repeat (first | exact Pick.here _ | apply Pick.there))) (MSub.cons (by first | (with_reducible repeat (first | exact Pick.here _ | apply Pick.there)); done | (repeat (first | exact Pick.here _ | apply Pick.there))) (MSub.cons (by first | (with_reducible repeat (first | exact Pick.here _ | apply Pick.there)); done | (repeat (first | exact Pick.here _ | apply Pick.there))) (MSub.nil _))))), some_eq hp⟩
      · skip
        replace hp := cond_f hc12 hp
        refine W_skip ?_
        refine W_seq ?_
        refine W_region ?_
        refine L_move rfl rfl ?_
        refine L_lenP (X := y11x0) rfl rfl el57 ?_
        refine L_binV rfl rfl rfl bv_sub ?_
        refine L_assign rfl rfl ?_
        refine L_nil ?_
        refine W_seq ?_
        refine W_region ?_
        refine L_assign rfl rfl ?_
        refine L_nil ?_
        refine W_block ?_
        refine W_while (σ := (TL T_Copy) × Int × Int) GT.dat (fun ((v13_0, v13_1, v13_2) : (TL T_Copy) × Int × Int) => [(7, (TL.hdr v13_0)), (12, .int .i64 v13_1), (13, .int .i64 v13_2)]) (fun ((v13_0, v13_1, v13_2) : (TL T_Copy) × Int × Int) => [treeH v13_0]) [(2, _), (4, _), (9, _), (10, _), (11, _), (29, _), (30, _), (31, _)] [blk bk4 _ _, treeH y11x0, treeH y6x0] (v7_0, IntKind.wrap .i64 (2 - ((GT.dat y11x0).length : Int)), 0) hp (Sub.cons rfl (Sub.cons rfl (Sub.cons rfl (Sub.cons rfl (Sub.cons rfl (Sub.cons rfl (Sub.cons rfl (Sub.cons rfl (Sub.cons rfl (Sub.cons rfl (Sub.cons rfl (Sub.nil _)))))))))))) (MSub.cons (by first | (with_reducible repeat (first | exact Pick.here _ | apply Pick.there)); done | (repeat (first | exact Pick.here _ | apply Pick.there))) (MSub.cons (by first | (with_reducible repeat (first | exact Pick.here _ | apply Pick.there)); done | (repeat (first | exact Pick.here _ | apply Pick.there))) (MSub.cons (by first | (with_reducible repeat (first | exact Pick.here _ | apply Pick.there)); done | (repeat (first | exact Pick.here _ | apply Pick.there))) (MSub.cons (by first | (with_reducible repeat (first | exact Pick.here _ | apply Pick.there)); done | (repeat (first | exact Pick.here _ | apply Pick.there))) (MSub.nil _))))) ?_
        clear hp
        rintro ⟨v13_0, v13_1, v13_2⟩ x13 hp hx13
        try dsimp only [dat_pair, dat_int, dat_bool, dat_str] at hp
        refine W_weaken (l' := [(2, _), (4, _), (7, _), (9, _), (10, _), (11, _), (12, _), (13, _), (29, _), (30, _), (31, _)]) (Sub.cons rfl (Sub.cons rfl (Sub.cons rfl (Sub.cons rfl (Sub.cons rfl (Sub.cons rfl (Sub.cons rfl (Sub.cons rfl (Sub.cons rfl (Sub.cons rfl (Sub.cons rfl (Sub.nil _)))))))))))) (M' := [_, _, _, _]) (MSub.cons (by first | (with_reducible repeat (first | exact Pick.here _ | apply Pick.there)); done | (repeat (first | exact Pick.here _ | apply Pick.there))) (MSub.cons (by first | (with_reducible repeat (first | exact Pick.here _ | apply Pick.there)); done | (repeat (first | exact Pick.here _ | apply Pick.there))) (MSub.cons (by first | (with_reducible repeat (first | exact Pick.here _ | apply Pick.there)); done | (repeat (first | exact Pick.here _ | apply Pick.there))) (MSub.cons (by first | (with_reducible repeat (first | exact Pick.here _ | apply Pick.there)); done | (repeat (first | exact Pick.here _ | apply Pick.there))) (MSub.nil _))))) ?_
        refine W_seq ?_
        refine W_seq ?_
        refine W_D0 [52] mix (by kernel_rfl) rfl ?_
        refine D_move GC.none (OpV.t rfl) ?_
        refine D_bin GC.none (OpV.t rfl) OpV.c (fun hg => bv_lss) ?_
        refine D_move GC.none (OpV.t rfl) ?_
        refine D_move (GC.some rfl rfl) (OpV.t rfl) ?_
        refine D_bin (GC.some rfl rfl) (OpV.s rfl) OpV.c (fun hg => bv_gtr) ?_
        refine D_and (cy := _) GC.none (OpV.t rfl) (OpV.s rfl) (fun h hb => ⟨h, hb⟩) ?_
        refine DV_nil ?_
        refine Give_is rfl rfl ?_
        refine Give_drop rfl ?_
        refine Give_drop rfl ?_
        refine Give_drop rfl ?_
        refine Give_drop rfl ?_
        refine Give_drop rfl ?_
        refine Give_nil ?_
        refine W_weaken (l' := [(2, _), (4, _), (7, _), (9, _), (10, _), (11, _), (12, _), (13, _), (29, _), (30, _), (31, _), (52, _)]) (Sub.cons rfl (Sub.cons rfl (Sub.cons rfl (Sub.cons rfl (Sub.cons rfl (Sub.cons rfl (Sub.cons rfl (Sub.cons rfl (Sub.cons rfl (Sub.cons rfl (Sub.cons rfl (Sub.cons rfl (Sub.nil _))))))))))))) (MSub.refl _) ?_
        refine W_cond rfl (fun hc14 => ?_) (fun hc14 => ?_)
        · skip
          replace hp := cond_t hc14 hp
          refine W_skip ?_
          refine W_seq ?_
          refine W_block ?_
          refine W_seq ?_
          have ho := hp; clear hp; obtain ⟨u15, hy15, hp⟩ := idx_bind ho; clear ho
          have ho := hp; clear hp; obtain ⟨y16, hy16, hp⟩ := gb_any ho; clear ho
          refine W_D0 [64] mix (by kernel_rfl) rfl ?_
          refine D_move GC.none (OpV.t rfl) ?_
          refine D_move GC.none (OpV.t rfl) ?_
          refine D_idxA (X := a2) GC.none (OpV.t rfl) (OpV.t rfl) el28 (RdT.old h2) (fun _ => hy15) ?_
          refine D_load0 GC.none (OpV.t rfl) (fun hg => RdT.at (RdT.old h2) (hy15).2) one4 rfl ?_
          refine D_move GC.none (OpV.t rfl) ?_
          refine D_move (GC.some rfl rfl) (OpV.t rfl) ?_
          refine D_move (GC.some rfl rfl) (OpV.t rfl) ?_
          refine D_callX (GC.some rfl rfl) fn34 (OpVs.cons (OpV.s rfl) (OpVs.cons (OpV.s rfl) (OpVs.nil))) (by exact fun hg w F hF hM => sl_Contains_intint_walk w y10x0 v13_2 (RdT.nowS (RdT.map hby10x0 (RdT.pair RdT.int (RdT.old h1.2))) hF hM) _ (hy16 hg.2)) ?_
          refine D_not (GC.some rfl rfl) (OpV.s rfl) ?_
          refine D_and (cy := _) GC.none (OpV.t rfl) (OpV.s rfl) (fun h hb => ⟨h, hb⟩) ?_
          refine DV_nil ?_
          refine Give_is rfl rfl ?_
          refine Give_drop rfl ?_
          refine Give_drop rfl ?_
          refine Give_drop rfl ?_
          refine Give_drop rfl ?_
          refine Give_drop rfl ?_
          refine Give_drop rfl ?_
          refine Give_drop rfl ?_
          refine Give_drop rfl ?_
          refine Give_drop rfl ?_
          refine Give_nil ?_
          refine W_weaken (l' := [(2, _), (4, _), (7, _), (9, _), (10, _), (11, _), (12, _), (13, _), (29, _), (30, _), (31, _), (64, _)]) (Sub.cons rfl (Sub.cons rfl (Sub.cons rfl (Sub.cons rfl (Sub.cons rfl (Sub.cons rfl (Sub.cons rfl (Sub.cons rfl (Sub.cons rfl (Sub.cons rfl (Sub.cons rfl (Sub.cons rfl (Sub.nil _))))))))))))) (MSub.refl _) ?_
          refine W_cond rfl (fun hc17 => ?_) (fun hc17 => ?_)
          · skip
            replace hp := cond_t hc17 hp
            refine W_seq ?_
            refine W_region ?_
            refine L_move rfl rfl ?_
            refine L_move rfl rfl ?_
            refine L_move rfl rfl ?_
            have ho := hp; clear hp; obtain ⟨u18, hy18, hp⟩ := idx_bind ho; clear ho
            refine L_idxA (X := y11x0) rfl rfl rfl el57 (RdT.tree (by first | (with_reducible repeat (first | exact List.Mem.head _ | apply List.Mem.tail)); done | (repeat (first | exact List.Mem.head _ | apply List.Mem.tail)))) hy18 ?_
            refine L_load0 rfl rfl (RdT.at (RdT.tree (by first | (with_reducible repeat (first | exact List.Mem.head _ | apply List.Mem.tail)); done | (repeat (first | exact List.Mem.head _ | apply List.Mem.tail)))) (hy18).2) one3 rfl ?_
            refine L_move rfl rfl ?_
            refine L_build (xs := [(0, .tmp 66), (1, .tmp 69), (2, .tmp 70)]) (cs := [.string u9, .int .i64 u18, .int .i64 v13_2]) rfl rfl bld61 rfl ?_
            refine L_buildSlice1 rfl rfl el31 rfl (by decide) (by decide) rfl (fun bb72 => ?_)
            have ho := hp; clear hp; obtain ⟨y20, hy20, hp⟩ := bind_any ho; clear ho
            refine L_app1F (X := v13_0) ((u9, u18, v13_2) : T_Copy) rfl rfl rfl el31 rfl rfl (by first | (with_reducible repeat (first | exact Pick.here _ | apply Pick.there)); done | (repeat (first | exact Pick.here _ | apply Pick.there))) (by first | (with_reducible repeat (first | exact List.Mem.head _ | apply List.Mem.tail)); done | (repeat (first | exact List.Mem.head _ | apply List.Mem.tail)))  hy20 (by decide) (fun X19 hdX19 => ?_)
            subst hdX19
            refine L_assign rfl rfl ?_
            refine L_nil ?_
            refine W_region ?_
            refine L_move rfl rfl ?_
            refine L_binV rfl rfl rfl bv_sub ?_
            refine L_assign rfl rfl ?_
            refine L_nil ?_
            refine W_region ?_
            refine L_move rfl rfl ?_
            refine L_binV rfl rfl rfl bv_add ?_
            refine L_assign rfl rfl ?_
            refine L_nil ?_
            exact ⟨(X19, IntKind.wrap .i64 (v13_1 - 1), IntKind.wrap .i64 (v13_2 + 1)), (Sub.cons rfl (Sub.cons rfl (Sub.cons rfl (Sub.cons rfl (Sub.cons rfl (Sub.cons rfl (Sub.cons rfl (Sub.cons rfl (Sub.cons rfl (Sub.cons rfl (Sub.cons rfl (Sub.nil _)))))))))))), (Arr.sub (MSub.cons (by first | (with_reducible repeat (first | exact Pick.here _ | apply Pick.there)); done | (repeat (first | exact Pick.here _ | apply Pick.there))) (MSub.cons (by first | (with_reducible repeat (first | exact Pick.here _ | apply Pick.there)); done | (repeat (first | exact Pick.here _ | apply Pick.there))) (MSub.cons (by first | (with_reducible repeat (first | exact Pick.here _ | apply Pick.there)); done | (repeat (first | exact Pick.here _ | apply Pick.there))) (MSub.cons (by first | (with_reducible repeat (first | exact Pick.here _ | apply Pick.there)); done | (repeat (first | exact Pick.here _ | apply Pick.there))) (MSub.nil _)))))), some_eq hp⟩
          · skip
            replace hp := cond_f hc17 hp
            refine W_skip ?_
            refine W_region ?_
            refine L_move rfl rfl ?_
            refine L_binV rfl rfl rfl bv_add ?_
            refine L_assign rfl rfl ?_
            refine L_nil ?_
            exact ⟨(v13_0, v13_1, IntKind.wrap .i64 (v13_2 + 1)), (Sub.cons rfl (Sub.cons rfl (Sub.cons rfl (Sub.cons rfl (Sub.cons rfl (Sub.cons rfl (Sub.cons rfl (Sub.cons rfl (Sub.cons rfl (Sub.cons rfl (Sub.cons rfl (Sub.nil _)))))))))))), (Arr.sub (MSub.cons (by first | (with_reducible repeat (first | exact Pick.here _ | apply Pick.there)); done | (repeat (first | exact Pick.here _ | apply Pick.there))) (MSub.cons (by first | (with_reducible repeat (first | exact Pick.here _ | apply Pick.there)); done | (repeat (first | exact Pick.here _ | apply Pick.there))) (MSub.cons (by first | (with_reducible repeat (first | exact Pick.here _ | apply Pick.there)); done | (repeat (first | exact Pick.here _ | apply Pick.there))) (MSub.cons (by first | (with_reducible repeat (first | exact Pick.here _ | apply Pick.there)); done | (repeat (first | exact Pick.here _ | apply Pick.there))) (MSub.nil _)))))), some_eq hp⟩
        · skip
          replace hp := cond_f hc14 hp
          refine W_exit ?_
          have ho := hp; clear hp; obtain ⟨a21, hp, hx_a21⟩ := map_any ho; clear ho
          obtain rfl := hx13 _ hx_a21
          refine W_region ?_
          refine L_binV rfl rfl rfl bv_add ?_
          refine L_move rfl rfl ?_
          refine L_nil ?_
          exact ⟨(v13_0, IntKind.wrap .i64 (v7_1 + 1)), (Sub.cons rfl (Sub.cons rfl (Sub.cons rfl (Sub.cons rfl (Sub.cons rfl (Sub.cons rfl (Sub.nil _))))))), (Arr.sub (MSub.cons (by first | (with_reducible repeat (first | exact Pick.here _ | apply Pick.there)); done | (repeat (first | exact Pick.here _ | apply Pick.there))) (MSub.cons (by first | (with_reducible repeat (first | exact Pick.here _ | apply Pick.there)); done | (repeat (first | exact Pick.here _ | apply Pick.there))) (MSub.cons (by first | (with_reducible repeat (first | exact Pick.here _ | apply Pick.there)); done | (repeat (first | exact Pick.here _ | apply Pick.there))) (MSub.nil _))))), some_eq hp⟩
    · skip
      replace hp := cond_f hc8 hp
      refine W_exit ?_
      have ho := hp; clear hp; obtain ⟨a22, hp, hx_a22⟩ := map_any ho; clear ho
      obtain rfl := hx7 _ hx_a22
      refine W_seq ?_
      refine W_region ?_
      refine L_move rfl rfl ?_
      refine L_assign rfl rfl ?_
      refine L_nil ?_
      obtain rfl := Option.some.inj hp
      refine W_ret ?_
      refine res1 rfl (ResOK.tmp rfl) ⟨v7_0, rfl, rfl, rfl⟩ (MSub.cons (by first | (with_reducible repeat (first | exact Pick.here _ | apply Pick.there)); done | (repeat (first | exact Pick.here _ | apply Pick.there))) (MSub.nil _))

end Go.Proofs.SL
