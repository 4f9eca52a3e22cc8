/- Walks of functions, each with the function on data that it follows. -/
import Derived.Test.YthebgoognabinaaB2
import Derived.Test.YthebgoognabinaaW0
import Derived.Test.YthebgoognabinaaFEd
namespace Go.Proofs.SL
open Go
abbrev D_Cmd := Int × Int × Int × ByteArray × ByteArray × ByteArray × Int × (List ByteArray)
theorem fn241 : IsFn Try.prog 241 := ⟨_, Try.func241, by kernel_rfl, rfl⟩
theorem fn123 : IsFn Try.prog 123 := ⟨_, Try.func123, by kernel_rfl, rfl⟩
theorem fn210 : IsFn Try.prog 210 := ⟨_, Try.func210, by kernel_rfl, rfl⟩
theorem bld129 : bldOf Try.prog 129 = some ([(0, 1), (1, 1), (2, 1), (3, 1), (4, 1), (5, 1), (6, 1), (7, 1)], [.int .i64 0, .int .i64 0, .int .i64 0, .string ByteArray.empty, .string ByteArray.empty, .string ByteArray.empty, .int .i64 0, .slice none 0 0]) := by kernel_rfl
theorem fn178 : IsFn Try.prog 178 := ⟨_, Try.func178, by kernel_rfl, rfl⟩
theorem fn179 : IsFn Try.prog 179 := ⟨_, Try.func179, by kernel_rfl, rfl⟩
theorem fn287 : IsFn Try.prog 287 := ⟨_, Try.func287, by kernel_rfl, rfl⟩
theorem fn261 : IsFn Try.prog 261 := ⟨_, Try.func261, by kernel_rfl, rfl⟩
theorem fn242 : IsFn Try.prog 242 := ⟨_, Try.func242, by kernel_rfl, rfl⟩
theorem fn243 : IsFn Try.prog 243 := ⟨_, Try.func243, by kernel_rfl, rfl⟩
theorem fn244 : IsFn Try.prog 244 := ⟨_, Try.func244, by kernel_rfl, rfl⟩
noncomputable def s_l4Texts (a0 : List ByteArray) (a1 : List ByteArray) : Option Bool :=
  cond (!decide ((a0.length : Int) = (a1.length : Int))) (some false) (whileP (fun s2 : Int => cond (decide (s2 < (a0.length : Int))) (Option.bind (idx a0 s2) (fun y4 => Option.bind (idx a1 s2) (fun y5 => cond (!decide (y4 = y5)) (Option.map .inr (some false)) (some (.inl (IntKind.wrap .i64 (s2 + 1))))))) (Option.map .inr (some true))) 0)

theorem s_l4Texts_walk (w : World) (a0 : TL ByteArray) (a1 : TL ByteArray) (h0 : GT.rd w [] a0) (h1 : GT.rd w [] a1) (r : Bool) (hp : s_l4Texts (GT.dat a0) (GT.dat a1) = some r) : Spec Try.prog 241 [(TL.hdr a0), (TL.hdr a1)].toArray w [] (IsV (.bool r)) := by
  refine Spec.intro Try.func241 rfl Try.ntmps241 rfl ?_
  unfold s_l4Texts at hp
  try dsimp only [dat_pair, dat_int, dat_bool, dat_str] at hp
  refine W_seq ?_
  refine W_region ?_
  refine L_assign rfl rfl ?_
  refine L_nil ?_
  refine W_seq ?_
  refine W_seq ?_
  refine W_region ?_
  refine L_move rfl rfl ?_
  refine L_lenP (X := a0) rfl rfl el48 ?_
  refine L_move rfl rfl ?_
  refine L_lenP (X := a1) rfl rfl el48 ?_
  refine L_binV rfl rfl rfl bv_neq ?_
  refine L_nil ?_
  refine W_weaken (l' := [(0, _), (1, _), (10, _)]) (Sub.cons rfl (Sub.cons rfl (Sub.cons rfl (Sub.nil _)))) (MSub.refl _) ?_
  refine W_cond rfl (fun hc1 => ?_) (fun hc1 => ?_)
  · skip
    replace hp := cond_t hc1 hp
    refine W_seq ?_
    refine W_region ?_
    refine L_assign rfl rfl ?_
    refine L_nil ?_
    obtain rfl := Option.some.inj hp
    refine W_ret ?_
    refine res1 rfl (ResOK.tmp rfl) ⟨rfl, rfl⟩ (MSub.nil _)
  · skip
    replace hp := cond_f hc1 hp
    refine W_skip ?_
    refine W_seq ?_
    refine W_seq ?_
    refine W_region ?_
    refine L_assign rfl rfl ?_
    refine L_nil ?_
    refine W_block ?_
    refine W_while (σ := Int) GT.dat (fun (v2_0 : Int) => [(5, .int .i64 v2_0)]) (fun (v2_0 : Int) => []) [(0, _), (1, _)] [] 0 hp (Sub.cons rfl (Sub.cons rfl (Sub.cons rfl (Sub.nil _)))) (MSub.nil _) ?_
    clear hp
    rintro v2_0 x2 hp hx2
    try dsimp only [dat_pair, dat_int, dat_bool, dat_str] at hp
    refine W_weaken (l' := [(0, _), (1, _), (5, _)]) (Sub.cons rfl (Sub.cons rfl (Sub.cons rfl (Sub.nil _)))) (M' := []) (MSub.nil _) ?_
    refine W_seq ?_
    refine W_seq ?_
    refine W_region ?_
    refine L_move rfl rfl ?_
    refine L_move rfl rfl ?_
    refine L_lenP (X := a0) rfl rfl el48 ?_
    refine L_binV rfl rfl rfl bv_lss ?_
    refine L_nil ?_
    refine W_weaken (l' := [(0, _), (1, _), (5, _), (14, _)]) (Sub.cons rfl (Sub.cons rfl (Sub.cons rfl (Sub.cons rfl (Sub.nil _))))) (MSub.refl _) ?_
    refine W_cond rfl (fun hc3 => ?_) (fun hc3 => ?_)
    · skip
      replace hp := cond_t hc3 hp
      refine W_skip ?_
      refine W_seq ?_
      refine W_block ?_
      refine W_seq ?_
      have ho := hp; clear hp; obtain ⟨u4, hy4, hp⟩ := idx_bind ho; clear ho
      have ho := hp; clear hp; obtain ⟨u5, hy5, hp⟩ := idx_bind ho; clear ho
      refine W_D0 [25] mix (by kernel_rfl) rfl ?_
      refine D_move GC.none (OpV.t rfl) ?_
      refine D_move GC.none (OpV.t rfl) ?_
      refine D_idxA (X := a0) GC.none (OpV.t rfl) (OpV.t rfl) el48 (RdT.old h0) (fun _ => hy4) ?_
      refine D_load0 GC.none (OpV.t rfl) (fun hg => RdT.at (RdT.old h0) (hy4).2) one9 rfl ?_
      refine D_move GC.none (OpV.t rfl) ?_
      refine D_move GC.none (OpV.t rfl) ?_
      refine D_idxA (X := a1) GC.none (OpV.t rfl) (OpV.t rfl) el48 (RdT.old h1) (fun _ => hy5) ?_
      refine D_load0 GC.none (OpV.t rfl) (fun hg => RdT.at (RdT.old h1) (hy5).2) one9 rfl ?_
      refine D_bin GC.none (OpV.t rfl) (OpV.t rfl) (fun hg => bv_sneq) ?_
      refine DV_nil ?_
      refine Give_is rfl rfl ?_
      refine Give_drop rfl ?_
      refine Give_drop rfl ?_
      refine Give_drop rfl ?_
      refine Give_drop rfl ?_
      refine Give_drop rfl ?_
      refine Give_drop rfl ?_
      refine Give_drop rfl ?_
      refine Give_drop rfl ?_
      refine Give_nil ?_
      refine W_weaken (l' := [(0, _), (1, _), (5, _), (25, _)]) (Sub.cons rfl (Sub.cons rfl (Sub.cons rfl (Sub.cons rfl (Sub.nil _))))) (MSub.refl _) ?_
      refine W_cond rfl (fun hc6 => ?_) (fun hc6 => ?_)
      · skip
        replace hp := cond_t hc6 hp
        refine W_seq ?_
        refine W_region ?_
        refine L_assign rfl rfl ?_
        refine L_nil ?_
        have ho := hp; clear hp; obtain ⟨a7, hp, hx_a7⟩ := map_any ho; clear ho
        obtain rfl := hx2 _ hx_a7
        obtain rfl := Option.some.inj hp
        refine W_ret ?_
        refine res1 rfl (ResOK.tmp rfl) ⟨rfl, rfl⟩ (MSub.nil _)
      · skip
        replace hp := cond_f hc6 hp
        refine W_skip ?_
        refine W_region ?_
        refine L_move rfl rfl ?_
        refine L_binV rfl rfl rfl bv_add ?_
        refine L_assign rfl rfl ?_
        refine L_nil ?_
        exact ⟨IntKind.wrap .i64 (v2_0 + 1), (Sub.cons rfl (Sub.cons rfl (Sub.cons rfl (Sub.nil _)))), (Arr.sub (MSub.nil _)), some_eq hp⟩
    · skip
      replace hp := cond_f hc3 hp
      refine W_exit ?_
      have ho := hp; clear hp; obtain ⟨a8, hp, hx_a8⟩ := map_any ho; clear ho
      obtain rfl := hx2 _ hx_a8
      refine W_seq ?_
      refine W_region ?_
      refine L_assign rfl rfl ?_
      refine L_nil ?_
      obtain rfl := Option.some.inj hp
      refine W_ret ?_
      refine res1 rfl (ResOK.tmp rfl) ⟨rfl, rfl⟩ (MSub.nil _)

noncomputable def s_SameCmd (a0 : D_Cmd) (a1 : D_Cmd) : Option Bool :=
  gb (((((((decide (a0.1 = a1.1)) && (decide (a0.2.1 = a1.2.1))) && (decide (a0.2.2.1 = a1.2.2.1))) && (decide (a0.2.2.2.1 = a1.2.2.2.1))) && (decide (a0.2.2.2.2.1 = a1.2.2.2.2.1))) && (decide (a0.2.2.2.2.2.1 = a1.2.2.2.2.2.1))) && (decide (a0.2.2.2.2.2.2.1 = a1.2.2.2.2.2.2.1))) (s_l4Texts a0.2.2.2.2.2.2.2 a1.2.2.2.2.2.2.2) (fun y1 => some ((((((((decide (a0.1 = a1.1)) && (decide (a0.2.1 = a1.2.1))) && (decide (a0.2.2.1 = a1.2.2.1))) && (decide (a0.2.2.2.1 = a1.2.2.2.1))) && (decide (a0.2.2.2.2.1 = a1.2.2.2.2.1))) && (decide (a0.2.2.2.2.2.1 = a1.2.2.2.2.2.1))) && (decide (a0.2.2.2.2.2.2.1 = a1.2.2.2.2.2.2.1))) && y1))

theorem s_SameCmd_walk (w : World) (a0 : T_Cmd) (a1 : T_Cmd) (h0 : GT.rd w [] a0) (h1 : GT.rd w [] a1) (r : Bool) (hp : s_SameCmd (GT.dat a0) (GT.dat a1) = some r) : Spec Try.prog 178 [.agg (GT.cells a0).toArray, .agg (GT.cells a1).toArray].toArray w [] (IsV (.bool r)) := by
  obtain ⟨a0_1, a0_2, a0_3, a0_4, a0_5, a0_6, a0_7, a0_8⟩ := a0
  obtain ⟨a1_1, a1_2, a1_3, a1_4, a1_5, a1_6, a1_7, a1_8⟩ := a1
  change Spec _ _ ([Value.agg #[.int .i64 a0_1, .int .i64 a0_2, .int .i64 a0_3, .string a0_4, .string a0_5, .string a0_6, .int .i64 a0_7, (TL.hdr a0_8)], Value.agg #[.int .i64 a1_1, .int .i64 a1_2, .int .i64 a1_3, .string a1_4, .string a1_5, .string a1_6, .int .i64 a1_7, (TL.hdr a1_8)]] : List Value).toArray w [] _
  refine Spec.intro Try.func178 rfl Try.ntmps178 rfl ?_
  unfold s_SameCmd at hp
  try dsimp only [dat_pair, dat_int, dat_bool, dat_str] at hp
  refine W_seq ?_
  refine W_region ?_
  refine L_box rfl rfl (fun bk2 => ?_)
  refine L_box rfl rfl (fun bk3 => ?_)
  refine L_assign rfl rfl ?_
  refine L_nil ?_
  refine W_seq ?_
  have ho := hp; clear hp; obtain ⟨y1, hy1, hp⟩ := gb_any ho; clear ho
  refine W_D0 [4] mix (by kernel_rfl) rfl ?_
  refine D_fieldAddr GC.none (OpV.t rfl) fld129_0 ?_
  refine D_load GC.none (OpV.t rfl) (fun hg => RdC.blk (by first | (with_reducible repeat (first | exact List.Mem.head _ | apply List.Mem.tail)); done | (repeat (first | exact List.Mem.head _ | apply List.Mem.tail)))) one3 rfl ?_
  refine D_fieldAddr GC.none (OpV.t rfl) fld129_0 ?_
  refine D_load GC.none (OpV.t rfl) (fun hg => RdC.blk (by first | (with_reducible repeat (first | exact List.Mem.head _ | apply List.Mem.tail)); done | (repeat (first | exact List.Mem.head _ | apply List.Mem.tail)))) one3 rfl ?_
  refine D_bin GC.none (OpV.t rfl) (OpV.t rfl) (fun hg => bv_eql) ?_
  refine D_move GC.none (OpV.t rfl) ?_
  refine D_fieldAddr (GC.some rfl rfl) (OpV.t rfl) fld129_1 ?_
  refine D_load (GC.some rfl rfl) (OpV.s rfl) (fun hg => RdC.blk (by first | (with_reducible repeat (first | exact List.Mem.head _ | apply List.Mem.tail)); done | (repeat (first | exact List.Mem.head _ | apply List.Mem.tail)))) one3 rfl ?_
  refine D_fieldAddr (GC.some rfl rfl) (OpV.t rfl) fld129_1 ?_
  refine D_load (GC.some rfl rfl) (OpV.s rfl) (fun hg => RdC.blk (by first | (with_reducible repeat (first | exact List.Mem.head _ | apply List.Mem.tail)); done | (repeat (first | exact List.Mem.head _ | apply List.Mem.tail)))) one3 rfl ?_
  refine D_bin (GC.some rfl rfl) (OpV.s rfl) (OpV.s rfl) (fun hg => bv_eql) ?_
  refine D_and (cy := _) GC.none (OpV.t rfl) (OpV.s rfl) (fun h hb => ⟨h, hb⟩) ?_
  refine D_move GC.none (OpV.t rfl) ?_
  refine D_fieldAddr (GC.some rfl rfl) (OpV.t rfl) fld129_2 ?_
  refine D_load (GC.some rfl rfl) (OpV.s rfl) (fun hg => RdC.blk (by first | (with_reducible repeat (first | exact List.Mem.head _ | apply List.Mem.tail)); done | (repeat (first | exact List.Mem.head _ | apply List.Mem.tail)))) one3 rfl ?_
  refine D_fieldAddr (GC.some rfl rfl) (OpV.t rfl) fld129_2 ?_
  refine D_load (GC.some rfl rfl) (OpV.s rfl) (fun hg => RdC.blk (by first | (with_reducible repeat (first | exact List.Mem.head _ | apply List.Mem.tail)); done | (repeat (first | exact List.Mem.head _ | apply List.Mem.tail)))) one3 rfl ?_
  refine D_bin (GC.some rfl rfl) (OpV.s rfl) (OpV.s rfl) (fun hg => bv_eql) ?_
  refine D_and (cy := _) GC.none (OpV.t rfl) (OpV.s rfl) (fun h hb => ⟨h, hb⟩) ?_
  refine D_move GC.none (OpV.t rfl) ?_
  refine D_fieldAddr (GC.some rfl rfl) (OpV.t rfl) fld129_3 ?_
  refine D_load (GC.some rfl rfl) (OpV.s rfl) (fun hg => RdC.blk (by first | (with_reducible repeat (first | exact List.Mem.head _ | apply List.Mem.tail)); done | (repeat (first | exact List.Mem.head _ | apply List.Mem.tail)))) one9 rfl ?_
  refine D_fieldAddr (GC.some rfl rfl) (OpV.t rfl) fld129_3 ?_
  refine D_load (GC.some rfl rfl) (OpV.s rfl) (fun hg => RdC.blk (by first | (with_reducible repeat (first | exact List.Mem.head _ | apply List.Mem.tail)); done | (repeat (first | exact List.Mem.head _ | apply List.Mem.tail)))) one9 rfl ?_
  refine D_bin (GC.some rfl rfl) (OpV.s rfl) (OpV.s rfl) (fun hg => bv_seql) ?_
  refine D_and (cy := _) GC.none (OpV.t rfl) (OpV.s rfl) (fun h hb => ⟨h, hb⟩) ?_
  refine D_move GC.none (OpV.t rfl) ?_
  refine D_fieldAddr (GC.some rfl rfl) (OpV.t rfl) fld129_4 ?_
  refine D_load (GC.some rfl rfl) (OpV.s rfl) (fun hg => RdC.blk (by first | (with_reducible repeat (first | exact List.Mem.head _ | apply List.Mem.tail)); done | (repeat (first | exact List.Mem.head _ | apply List.Mem.tail)))) one9 rfl ?_
  refine D_fieldAddr (GC.some rfl rfl) (OpV.t rfl) fld129_4 ?_
  refine D_load (GC.some rfl rfl) (OpV.s rfl) (fun hg => RdC.blk (by first | (with_reducible repeat (first | exact List.Mem.head _ | apply List.Mem.tail)); done | (repeat (first | exact List.Mem.head _ | apply List.Mem.tail)))) one9 rfl ?_
  refine D_bin (GC.some rfl rfl) (OpV.s rfl) (OpV.s rfl) (fun hg => bv_seql) ?_
  refine D_and (cy := _) GC.none (OpV.t rfl) (OpV.s rfl) (fun h hb => ⟨h, hb⟩) ?_
  refine D_move GC.none (OpV.t rfl) ?_
  refine D_fieldAddr (GC.some rfl rfl) (OpV.t rfl) fld129_5 ?_
  refine D_load (GC.some rfl rfl) (OpV.s rfl) (fun hg => RdC.blk (by first | (with_reducible repeat (first | exact List.Mem.head _ | apply List.Mem.tail)); done | (repeat (first | exact List.Mem.head _ | apply List.Mem.tail)))) one9 rfl ?_
  refine D_fieldAddr (GC.some rfl rfl) (OpV.t rfl) fld129_5 ?_
  refine D_load (GC.some rfl rfl) (OpV.s rfl) (fun hg => RdC.blk (by first | (with_reducible repeat (first | exact List.Mem.head _ | apply List.Mem.tail)); done | (repeat (first | exact List.Mem.head _ | apply List.Mem.tail)))) one9 rfl ?_
  refine D_bin (GC.some rfl rfl) (OpV.s rfl) (OpV.s rfl) (fun hg => bv_seql) ?_
  refine D_and (cy := _) GC.none (OpV.t rfl) (OpV.s rfl) (fun h hb => ⟨h, hb⟩) ?_
  refine D_move GC.none (OpV.t rfl) ?_
  refine D_fieldAddr (GC.some rfl rfl) (OpV.t rfl) fld129_6 ?_
  refine D_load (GC.some rfl rfl) (OpV.s rfl) (fun hg => RdC.blk (by first | (with_reducible repeat (first | exact List.Mem.head _ | apply List.Mem.tail)); done | (repeat (first | exact List.Mem.head _ | apply List.Mem.tail)))) one3 rfl ?_
  refine D_fieldAddr (GC.some rfl rfl) (OpV.t rfl) fld129_6 ?_
  refine D_load (GC.some rfl rfl) (OpV.s rfl) (fun hg => RdC.blk (by first | (with_reducible repeat (first | exact List.Mem.head _ | apply List.Mem.tail)); done | (repeat (first | exact List.Mem.head _ | apply List.Mem.tail)))) one3 rfl ?_
  refine D_bin (GC.some rfl rfl) (OpV.s rfl) (OpV.s rfl) (fun hg => bv_eql) ?_
  refine D_and (cy := _) GC.none (OpV.t rfl) (OpV.s rfl) (fun h hb => ⟨h, hb⟩) ?_
  refine D_move GC.none (OpV.t rfl) ?_
  refine D_fieldAddr (GC.some rfl rfl) (OpV.t rfl) fld129_7 ?_
  refine D_load (GC.some rfl rfl) (OpV.s rfl) (fun hg => RdC.blk (by first | (with_reducible repeat (first | exact List.Mem.head _ | apply List.Mem.tail)); done | (repeat (first | exact List.Mem.head _ | apply List.Mem.tail)))) one48 rfl ?_
  refine D_fieldAddr (GC.some rfl rfl) (OpV.t rfl) fld129_7 ?_
  refine D_load (GC.some rfl rfl) (OpV.s rfl) (fun hg => RdC.blk (by first | (with_reducible repeat (first | exact List.Mem.head _ | apply List.Mem.tail)); done | (repeat (first | exact List.Mem.head _ | apply List.Mem.tail)))) one48 rfl ?_
  refine D_callX (GC.some rfl rfl) fn241 (OpVs.cons (OpV.s rfl) (OpVs.cons (OpV.s rfl) (OpVs.nil))) (by exact fun hg w F hF hM => s_l4Texts_walk w a0_8 a1_8 (RdT.nowS (RdT.old h0.2.2.2.2.2.2.2) hF hM) (RdT.nowS (RdT.old h1.2.2.2.2.2.2.2) hF hM) _ (hy1 hg.2)) ?_
  refine D_and (cy := _) GC.none (OpV.t rfl) (OpV.s rfl) (fun h hb => ⟨h, hb⟩) ?_
  refine D_assign GC.none (OpV.t rfl) ?_
  refine DV_nil ?_
  refine Give_is rfl rfl ?_
  refine Give_drop rfl ?_
  refine Give_drop rfl ?_
  refine Give_drop rfl ?_
  refine Give_drop rfl ?_
  refine Give_drop rfl ?_
  refine Give_drop rfl ?_
  refine Give_drop rfl ?_
  refine Give_drop rfl ?_
  refine Give_drop rfl ?_
  refine Give_drop rfl ?_
  refine Give_drop rfl ?_
  refine Give_drop rfl ?_
  refine Give_drop rfl ?_
  refine Give_drop rfl ?_
  refine Give_drop rfl ?_
  refine Give_drop rfl ?_
  refine Give_drop rfl ?_
  refine Give_drop rfl ?_
  refine Give_drop rfl ?_
  refine Give_drop rfl ?_
  refine Give_drop rfl ?_
  refine Give_drop rfl ?_
  refine Give_drop rfl ?_
  refine Give_drop rfl ?_
  refine Give_drop rfl ?_
  refine Give_drop rfl ?_
  refine Give_drop rfl ?_
  refine Give_drop rfl ?_
  refine Give_drop rfl ?_
  refine Give_drop rfl ?_
  refine Give_drop rfl ?_
  refine Give_drop rfl ?_
  refine Give_drop rfl ?_
  refine Give_drop rfl ?_
  refine Give_drop rfl ?_
  refine Give_drop rfl ?_
  refine Give_drop rfl ?_
  refine Give_drop rfl ?_
  refine Give_drop rfl ?_
  refine Give_drop rfl ?_
  refine Give_drop rfl ?_
  refine Give_drop rfl ?_
  refine Give_drop rfl ?_
  refine Give_drop rfl ?_
  refine Give_drop rfl ?_
  refine Give_drop rfl ?_
  refine Give_drop rfl ?_
  refine Give_drop rfl ?_
  refine Give_drop rfl ?_
  refine Give_drop rfl ?_
  refine Give_drop rfl ?_
  refine Give_drop rfl ?_
  refine Give_drop rfl ?_
  refine Give_drop rfl ?_
  refine Give_nil ?_
  obtain rfl := Option.some.inj hp
  refine W_ret ?_
  refine res1 rfl (ResOK.tmp rfl) ⟨rfl, rfl⟩ (MSub.nil _)

noncomputable def s_l4Word (a0 : ByteArray) : Option Bool :=
  Option.bind (s_l1In (a0.size : Int) 1 8) (fun y1 => cond (!y1) (some false) (whileP (fun s3 : Int => cond (decide (s3 < (a0.size : Int))) (Option.bind (sidx a0 s3) (fun y5 => gb (!(decide (y5 < 97))) (sidx a0 s3) (fun y6 => cond ((decide (y5 < 97)) || (decide (122 < y6))) (Option.map .inr (some false)) (some (.inl (IntKind.wrap .i64 (s3 + 1))))))) (Option.map .inr (some true))) 0))

theorem s_l4Word_walk (w : World) (a0 : ByteArray)  (r : Bool) (hp : s_l4Word a0 = some r) : Spec Try.prog 210 [.string a0].toArray w [] (IsV (.bool r)) := by
  refine Spec.intro Try.func210 rfl Try.ntmps210 rfl ?_
  unfold s_l4Word at hp
  try dsimp only [dat_pair, dat_int, dat_bool, dat_str] at hp
  refine W_seq ?_
  refine W_region ?_
  refine L_assign rfl rfl ?_
  refine L_nil ?_
  refine W_seq ?_
  refine W_seq ?_
  refine W_region ?_
  refine L_move rfl rfl ?_
  refine L_lenT rfl rfl str9 ?_
  have ho := hp; clear hp; obtain ⟨y1, hy1, hp⟩ := bind_any ho; clear ho
  refine L_callX rfl fn123 rfl (by exact fun w hw => s_l1In_walk w (a0.size : Int) 1 8  _ hy1) ?_
  refine L_not rfl rfl ?_
  refine L_nil ?_
  refine W_weaken (l' := [(0, _), (7, _)]) (Sub.cons rfl (Sub.cons rfl (Sub.nil _))) (MSub.refl _) ?_
  refine W_cond rfl (fun hc2 => ?_) (fun hc2 => ?_)
  · skip
    replace hp := cond_t hc2 hp
    refine W_seq ?_
    refine W_region ?_
    refine L_assign rfl rfl ?_
    refine L_nil ?_
    obtain rfl := Option.some.inj hp
    refine W_ret ?_
    refine res1 rfl (ResOK.tmp rfl) ⟨rfl, rfl⟩ (MSub.nil _)
  · skip
    replace hp := cond_f hc2 hp
    refine W_skip ?_
    refine W_seq ?_
    refine W_seq ?_
    refine W_region ?_
    refine L_assign rfl rfl ?_
    refine L_nil ?_
    refine W_block ?_
    refine W_while (σ := Int) GT.dat (fun (v3_0 : Int) => [(3, .int .i64 v3_0)]) (fun (v3_0 : Int) => []) [(0, _)] [] 0 hp (Sub.cons rfl (Sub.cons rfl (Sub.nil _))) (MSub.nil _) ?_
    clear hp
    rintro v3_0 x3 hp hx3
    try dsimp only [dat_pair, dat_int, dat_bool, dat_str] at hp
    refine W_weaken (l' := [(0, _), (3, _)]) (Sub.cons rfl (Sub.cons rfl (Sub.nil _))) (M' := []) (MSub.nil _) ?_
    refine W_seq ?_
    refine W_seq ?_
    refine W_region ?_
    refine L_move rfl rfl ?_
    refine L_move rfl rfl ?_
    refine L_lenT rfl rfl str9 ?_
    refine L_binV rfl rfl rfl bv_lss ?_
    refine L_nil ?_
    refine W_weaken (l' := [(0, _), (3, _), (11, _)]) (Sub.cons rfl (Sub.cons rfl (Sub.cons rfl (Sub.nil _)))) (MSub.refl _) ?_
    refine W_cond rfl (fun hc4 => ?_) (fun hc4 => ?_)
    · skip
      replace hp := cond_t hc4 hp
      refine W_skip ?_
      refine W_seq ?_
      refine W_block ?_
      refine W_seq ?_
      have ho := hp; clear hp; obtain ⟨y5, hy5, hp⟩ := bind_any ho; clear ho
      have ho := hp; clear hp; obtain ⟨y6, hy6, hp⟩ := gb_any ho; clear ho
      refine W_D0 [23] mix (by kernel_rfl) rfl ?_
      refine D_move GC.none (OpV.t rfl) ?_
      refine D_move GC.none (OpV.t rfl) ?_
      refine D_idxS GC.none (OpV.t rfl) (OpV.t rfl) str9 (fun hg => hy5) ?_
      refine D_bin GC.none (OpV.t rfl) OpV.c (fun hg => bv_lss) ?_
      refine D_move GC.none (OpV.t rfl) ?_
      refine D_move (GC.some rfl rfl) (OpV.t rfl) ?_
      refine D_move (GC.some rfl rfl) (OpV.t rfl) ?_
      refine D_idxS (GC.some rfl rfl) (OpV.s rfl) (OpV.s rfl) str9 (fun hg => (hy6 (gnot hg.2))) ?_
      refine D_bin (GC.some rfl rfl) (OpV.s rfl) OpV.c (fun hg => bv_gtr) ?_
      refine D_or (cy := _) GC.none (OpV.t rfl) (OpV.s rfl) (fun h hb => ⟨h, hb⟩) ?_
      refine DV_nil ?_
      refine Give_is rfl rfl ?_
      refine Give_drop rfl ?_
      refine Give_drop rfl ?_
      refine Give_drop rfl ?_
      refine Give_drop rfl ?_
      refine Give_drop rfl ?_
      refine Give_drop rfl ?_
      refine Give_drop rfl ?_
      refine Give_drop rfl ?_
      refine Give_drop rfl ?_
      refine Give_nil ?_
      refine W_weaken (l' := [(0, _), (3, _), (23, _)]) (Sub.cons rfl (Sub.cons rfl (Sub.cons rfl (Sub.nil _)))) (MSub.refl _) ?_
      refine W_cond rfl (fun hc7 => ?_) (fun hc7 => ?_)
      · skip
        replace hp := cond_t hc7 hp
        refine W_seq ?_
        refine W_region ?_
        refine L_assign rfl rfl ?_
        refine L_nil ?_
        have ho := hp; clear hp; obtain ⟨a8, hp, hx_a8⟩ := map_any ho; clear ho
        obtain rfl := hx3 _ hx_a8
        obtain rfl := Option.some.inj hp
        refine W_ret ?_
        refine res1 rfl (ResOK.tmp rfl) ⟨rfl, rfl⟩ (MSub.nil _)
      · skip
        replace hp := cond_f hc7 hp
        refine W_skip ?_
        refine W_region ?_
        refine L_move rfl rfl ?_
        refine L_binV rfl rfl rfl bv_add ?_
        refine L_assign rfl rfl ?_
        refine L_nil ?_
        exact ⟨IntKind.wrap .i64 (v3_0 + 1), (Sub.cons rfl (Sub.cons rfl (Sub.nil _))), (Arr.sub (MSub.nil _)), some_eq hp⟩
    · skip
      replace hp := cond_f hc4 hp
      refine W_exit ?_
      have ho := hp; clear hp; obtain ⟨a9, hp, hx_a9⟩ := map_any ho; clear ho
      obtain rfl := hx3 _ hx_a9
      refine W_seq ?_
      refine W_region ?_
      refine L_assign rfl rfl ?_
      refine L_nil ?_
      obtain rfl := Option.some.inj hp
      refine W_ret ?_
      refine res1 rfl (ResOK.tmp rfl) ⟨rfl, rfl⟩ (MSub.nil _)

noncomputable def s_l4May (a0 : ByteArray) (a1 : Bool) : Option Bool :=
  cond a1 (Option.bind (s_l4Word a0) (fun y2 => some y2)) (some (decide (a0 = ByteArray.empty)))

theorem s_l4May_walk (w : World) (a0 : ByteArray) (a1 : Bool)  (r : Bool) (hp : s_l4May a0 a1 = some r) : Spec Try.prog 179 [.string a0, .bool a1].toArray w [] (IsV (.bool r)) := by
  refine Spec.intro Try.func179 rfl Try.ntmps179 rfl ?_
  unfold s_l4May at hp
  try dsimp only [dat_pair, dat_int, dat_bool, dat_str] at hp
  refine W_seq ?_
  refine W_region ?_
  refine L_assign rfl rfl ?_
  refine L_nil ?_
  refine W_seq ?_
  refine W_seq ?_
  refine W_region ?_
  refine L_move rfl rfl ?_
  refine L_nil ?_
  refine W_weaken (l' := [(0, _), (5, _)]) (Sub.cons rfl (Sub.cons rfl (Sub.nil _))) (MSub.refl _) ?_
  refine W_cond rfl (fun hc1 => ?_) (fun hc1 => ?_)
  · skip
    replace hp := cond_t hc1 hp
    refine W_seq ?_
    refine W_region ?_
    refine L_move rfl rfl ?_
    have ho := hp; clear hp; obtain ⟨y2, hy2, hp⟩ := bind_any ho; clear ho
    refine L_callX rfl fn210 rfl (by exact fun w hw => s_l4Word_walk w a0  _ hy2) ?_
    refine L_assign rfl rfl ?_
    refine L_nil ?_
    obtain rfl := Option.some.inj hp
    refine W_ret ?_
    refine res1 rfl (ResOK.tmp rfl) ⟨rfl, rfl⟩ (MSub.nil _)
  · skip
    replace hp := cond_f hc1 hp
    refine W_skip ?_
    refine W_seq ?_
    refine W_region ?_
    refine L_move rfl rfl ?_
    refine L_binV rfl rfl rfl bv_seql ?_
    refine L_assign rfl rfl ?_
    refine L_nil ?_
    obtain rfl := Option.some.inj hp
    refine W_ret ?_
    refine res1 rfl (ResOK.tmp rfl) ⟨rfl, rfl⟩ (MSub.nil _)

noncomputable def s_CmdOk (a0 : D_Cmd) : Option Bool :=
  Option.bind (s_l1In a0.1 0 7) (fun y1 => cond (!y1) (some false) (cond (decide (a0.1 = 0)) (Option.bind (s_SameCmd (a0.1, a0.2.1, a0.2.2.1, a0.2.2.2.1, a0.2.2.2.2.1, a0.2.2.2.2.2.1, a0.2.2.2.2.2.2.1, a0.2.2.2.2.2.2.2) (0, 0, 0, ByteArray.empty, ByteArray.empty, ByteArray.empty, 0, ([] : List ByteArray))) (fun y4 => some y4)) (Option.bind (s_l1In a0.2.1 1 9) (fun y5 => gb (!(!y5)) (s_l1In a0.2.2.1 1 1000) (fun y6 => gb (!((!y5) || (!y6))) (s_l4May a0.2.2.2.1 (!decide (a0.1 = 7))) (fun y7 => gb (!(((!y5) || (!y6)) || (!y7))) (s_l4May a0.2.2.2.2.1 ((decide (a0.1 = 3)) || (decide (a0.1 = 4)))) (fun y8 => gb (!((((!y5) || (!y6)) || (!y7)) || (!y8))) (s_l4May a0.2.2.2.2.2.1 (decide (a0.1 = 4))) (fun y9 => gb (((!(((((!y5) || (!y6)) || (!y7)) || (!y8)) || (!y9))) && (!decide (a0.2.2.2.2.2.2.1 = 0))) && (!(!decide (a0.1 = 5)))) (s_l1In a0.2.2.2.2.2.2.1 0 9) (fun y10 => cond ((((((!y5) || (!y6)) || (!y7)) || (!y8)) || (!y9)) || ((!decide (a0.2.2.2.2.2.2.1 = 0)) && ((!decide (a0.1 = 5)) || (!y10)))) (some false) (cond (!decide (a0.1 = 3)) (some (decide ((a0.2.2.2.2.2.2.2.length : Int) = 0))) (Option.bind (s_l1In (a0.2.2.2.2.2.2.2.length : Int) 1 4) (fun y13 => cond (!y13) (some false) (whileP (fun s15 : Int => cond (decide (s15 < (a0.2.2.2.2.2.2.2.length : Int))) (Option.bind (idx a0.2.2.2.2.2.2.2 s15) (fun y17 => cond (!decide ((y17.size : Int) = 8)) (Option.map .inr (some false)) (some (.inl (IntKind.wrap .i64 (s15 + 1)))))) (Option.map .inr (some true))) 0)))))))))))))

theorem s_CmdOk_walk (w : World) (a0 : T_Cmd) (h0 : GT.rd w [] a0) (r : Bool) (hp : s_CmdOk (GT.dat a0) = some r) : Spec Try.prog 88 [.agg (GT.cells a0).toArray].toArray w [] (IsV (.bool r)) := by
  obtain ⟨a0_1, a0_2, a0_3, a0_4, a0_5, a0_6, a0_7, a0_8⟩ := a0
  change Spec _ _ ([Value.agg #[.int .i64 a0_1, .int .i64 a0_2, .int .i64 a0_3, .string a0_4, .string a0_5, .string a0_6, .int .i64 a0_7, (TL.hdr a0_8)]] : List Value).toArray w [] _
  refine Spec.intro Try.func88 rfl Try.ntmps88 rfl ?_
  unfold s_CmdOk at hp
  try dsimp only [dat_pair, dat_int, dat_bool, dat_str] at hp
  refine W_seq ?_
  refine W_region ?_
  refine L_box rfl rfl (fun bk1 => ?_)
  refine L_assign rfl rfl ?_
  refine L_nil ?_
  refine W_seq ?_
  refine W_seq ?_
  refine W_region ?_
  refine L_fieldAddr rfl rfl fld129_0 ?_
  refine L_load rfl rfl (RdC.blk (by first | (with_reducible repeat (first | exact List.Mem.head _ | apply List.Mem.tail)); done | (repeat (first | exact List.Mem.head _ | apply List.Mem.tail)))) one3 rfl ?_
  have ho := hp; clear hp; obtain ⟨y1, hy1, hp⟩ := bind_any ho; clear ho
  refine L_callX rfl fn123 rfl (by exact fun w hw => s_l1In_walk w a0_1 0 7  _ hy1) ?_
  refine L_not rfl rfl ?_
  refine L_nil ?_
  refine W_weaken (l' := [(1, _), (8, _)]) (Sub.cons rfl (Sub.cons rfl (Sub.nil _))) (MSub.refl _) ?_
  refine W_cond rfl (fun hc2 => ?_) (fun hc2 => ?_)
  · skip
    replace hp := cond_t hc2 hp
    refine W_seq ?_
    refine W_region ?_
    refine L_assign rfl rfl ?_
    refine L_nil ?_
    obtain rfl := Option.some.inj hp
    refine W_ret ?_
    refine res1 rfl (ResOK.tmp rfl) ⟨rfl, rfl⟩ (MSub.nil _)
  · skip
    replace hp := cond_f hc2 hp
    refine W_skip ?_
    refine W_seq ?_
    refine W_seq ?_
    refine W_region ?_
    refine L_fieldAddr rfl rfl fld129_0 ?_
    refine L_load rfl rfl (RdC.blk (by first | (with_reducible repeat (first | exact List.Mem.head _ | apply List.Mem.tail)); done | (repeat (first | exact List.Mem.head _ | apply List.Mem.tail)))) one3 rfl ?_
    refine L_binV rfl rfl rfl bv_eql ?_
    refine L_nil ?_
    refine W_weaken (l' := [(1, _), (11, _)]) (Sub.cons rfl (Sub.cons rfl (Sub.nil _))) (MSub.refl _) ?_
    refine W_cond rfl (fun hc3 => ?_) (fun hc3 => ?_)
    · skip
      replace hp := cond_t hc3 hp
      refine W_seq ?_
      refine W_region ?_
      refine L_loadW rfl rfl (RdC.blk (by first | (with_reducible repeat (first | exact List.Mem.head _ | apply List.Mem.tail)); done | (repeat (first | exact List.Mem.head _ | apply List.Mem.tail)))) (by exact agg129) ?_
      refine L_build (xs := []) (cs := [.int .i64 0, .int .i64 0, .int .i64 0, .string ByteArray.empty, .string ByteArray.empty, .string ByteArray.empty, .int .i64 0, (TL.hdr (TL.nil ByteArray 0))]) rfl rfl bld129 rfl ?_
      have ho := hp; clear hp; obtain ⟨y4, hy4, hp⟩ := bind_any ho; clear ho
      refine L_callX rfl fn178 rfl (by exact fun w hw => s_SameCmd_walk w (a0_1, a0_2, a0_3, a0_4, a0_5, a0_6, a0_7, a0_8) (0, 0, 0, ByteArray.empty, ByteArray.empty, ByteArray.empty, 0, (TL.nil ByteArray 0)) (RdT.now (RdT.pair RdT.int (RdT.pair RdT.int (RdT.pair RdT.int (RdT.pair RdT.str (RdT.pair RdT.str (RdT.pair RdT.str (RdT.pair RdT.int (RdT.old h0.2.2.2.2.2.2.2)))))))) hw) (RdT.now (RdT.pair RdT.int (RdT.pair RdT.int (RdT.pair RdT.int (RdT.pair RdT.str (RdT.pair RdT.str (RdT.pair RdT.str (RdT.pair RdT.int (RdT.nil 0)))))))) hw) _ hy4) ?_
      refine L_assign rfl rfl ?_
      refine L_nil ?_
      obtain rfl := Option.some.inj hp
      refine W_ret ?_
      refine res1 rfl (ResOK.tmp rfl) ⟨rfl, rfl⟩ (MSub.nil _)
    · skip
      replace hp := cond_f hc3 hp
      refine W_skip ?_
      refine W_seq ?_
      refine W_region ?_
      refine L_fieldAddr rfl rfl fld129_0 ?_
      refine L_load rfl rfl (RdC.blk (by first | (with_reducible repeat (first | exact List.Mem.head _ | apply List.Mem.tail)); done | (repeat (first | exact List.Mem.head _ | apply List.Mem.tail)))) one3 rfl ?_
      refine L_assign rfl rfl ?_
      refine L_nil ?_
      refine W_seq ?_
      refine W_seq ?_
      have ho := hp; clear hp; obtain ⟨y5, hy5, hp⟩ := bind_any ho; clear ho
      have ho := hp; clear hp; obtain ⟨y6, hy6, hp⟩ := gb_any ho; clear ho
      have ho := hp; clear hp; obtain ⟨y7, hy7, hp⟩ := gb_any ho; clear ho
      have ho := hp; clear hp; obtain ⟨y8, hy8, hp⟩ := gb_any ho; clear ho
      have ho := hp; clear hp; obtain ⟨y9, hy9, hp⟩ := gb_any ho; clear ho
      have ho := hp; clear hp; obtain ⟨y10, hy10, hp⟩ := gb_any ho; clear ho
      refine W_D0 [69] mix (by kernel_rfl) rfl ?_
      refine D_fieldAddr GC.none (OpV.t rfl) fld129_1 ?_
      refine D_load GC.none (OpV.t rfl) (fun hg => RdC.blk (by first | (with_reducible repeat (first | exact List.Mem.head _ | apply List.Mem.tail)); done | (repeat (first | exact List.Mem.head _ | apply List.Mem.tail)))) one3 rfl ?_
      refine D_callX GC.none fn123 (OpVs.cons (OpV.t rfl) (OpVs.cons OpV.c (OpVs.cons OpV.c (OpVs.nil)))) (by exact fun hg w F hF hM => s_l1In_walk w a0_2 1 9  _ hy5) ?_
      refine D_not GC.none (OpV.t rfl) ?_
      refine D_move GC.none (OpV.t rfl) ?_
      refine D_fieldAddr (GC.some rfl rfl) (OpV.t rfl) fld129_2 ?_
      refine D_load (GC.some rfl rfl) (OpV.s rfl) (fun hg => RdC.blk (by first | (with_reducible repeat (first | exact List.Mem.head _ | apply List.Mem.tail)); done | (repeat (first | exact List.Mem.head _ | apply List.Mem.tail)))) one3 rfl ?_
      refine D_callX (GC.some rfl rfl) fn123 (OpVs.cons (OpV.s rfl) (OpVs.cons OpV.c (OpVs.cons OpV.c (OpVs.nil)))) (by exact fun hg w F hF hM => s_l1In_walk w a0_3 1 1000  _ (hy6 (gnot hg.2))) ?_
      refine D_not (GC.some rfl rfl) (OpV.s rfl) ?_
      refine D_or (cy := _) GC.none (OpV.t rfl) (OpV.s rfl) (fun h hb => ⟨h, hb⟩) ?_
      refine D_move GC.none (OpV.t rfl) ?_
      refine D_fieldAddr (GC.some rfl rfl) (OpV.t rfl) fld129_3 ?_
      refine D_load (GC.some rfl rfl) (OpV.s rfl) (fun hg => RdC.blk (by first | (with_reducible repeat (first | exact List.Mem.head _ | apply List.Mem.tail)); done | (repeat (first | exact List.Mem.head _ | apply List.Mem.tail)))) one9 rfl ?_
      refine D_move (GC.some rfl rfl) (OpV.t rfl) ?_
      refine D_bin (GC.some rfl rfl) (OpV.s rfl) OpV.c (fun hg => bv_neq) ?_
      refine D_callX (GC.some rfl rfl) fn179 (OpVs.cons (OpV.s rfl) (OpVs.cons (OpV.s rfl) (OpVs.nil))) (by exact fun hg w F hF hM => s_l4May_walk w a0_4 (!decide (a0_1 = 7))  _ (hy7 (gnot hg.2))) ?_
      refine D_not (GC.some rfl rfl) (OpV.s rfl) ?_
      refine D_or (cy := _) GC.none (OpV.t rfl) (OpV.s rfl) (fun h hb => ⟨h, hb⟩) ?_
      refine D_move GC.none (OpV.t rfl) ?_
      refine D_fieldAddr (GC.some rfl rfl) (OpV.t rfl) fld129_4 ?_
      refine D_load (GC.some rfl rfl) (OpV.s rfl) (fun hg => RdC.blk (by first | (with_reducible repeat (first | exact List.Mem.head _ | apply List.Mem.tail)); done | (repeat (first | exact List.Mem.head _ | apply List.Mem.tail)))) one9 rfl ?_
      refine D_move (GC.some rfl rfl) (OpV.t rfl) ?_
      refine D_bin (GC.some rfl rfl) (OpV.s rfl) OpV.c (fun hg => bv_eql) ?_
      refine D_move (GC.some rfl rfl) (OpV.s rfl) ?_
      refine D_move (GC.some rfl rfl) (OpV.t rfl) ?_
      refine D_bin (GC.some rfl rfl) (OpV.s rfl) OpV.c (fun hg => bv_eql) ?_
      refine D_or (cy := _) (GC.some rfl rfl) (OpV.s rfl) (OpV.s rfl) (fun h hb => ⟨h, hb⟩) ?_
      refine D_callX (GC.some rfl rfl) fn179 (OpVs.cons (OpV.s rfl) (OpVs.cons (OpV.s rfl) (OpVs.nil))) (by exact fun hg w F hF hM => s_l4May_walk w a0_5 ((decide (a0_1 = 3)) || (decide (a0_1 = 4)))  _ (hy8 (gnot hg.2))) ?_
      refine D_not (GC.some rfl rfl) (OpV.s rfl) ?_
      refine D_or (cy := _) GC.none (OpV.t rfl) (OpV.s rfl) (fun h hb => ⟨h, hb⟩) ?_
      refine D_move GC.none (OpV.t rfl) ?_
      refine D_fieldAddr (GC.some rfl rfl) (OpV.t rfl) fld129_5 ?_
      refine D_load (GC.some rfl rfl) (OpV.s rfl) (fun hg => RdC.blk (by first | (with_reducible repeat (first | exact List.Mem.head _ | apply List.Mem.tail)); done | (repeat (first | exact List.Mem.head _ | apply List.Mem.tail)))) one9 rfl ?_
      refine D_move (GC.some rfl rfl) (OpV.t rfl) ?_
      refine D_bin (GC.some rfl rfl) (OpV.s rfl) OpV.c (fun hg => bv_eql) ?_
      refine D_callX (GC.some rfl rfl) fn179 (OpVs.cons (OpV.s rfl) (OpVs.cons (OpV.s rfl) (OpVs.nil))) (by exact fun hg w F hF hM => s_l4May_walk w a0_6 (decide (a0_1 = 4))  _ (hy9 (gnot hg.2))) ?_
      refine D_not (GC.some rfl rfl) (OpV.s rfl) ?_
      refine D_or (cy := _) GC.none (OpV.t rfl) (OpV.s rfl) (fun h hb => ⟨h, hb⟩) ?_
      refine D_move GC.none (OpV.t rfl) ?_
      refine D_fieldAddr (GC.some rfl rfl) (OpV.t rfl) fld129_6 ?_
      refine D_load (GC.some rfl rfl) (OpV.s rfl) (fun hg => RdC.blk (by first | (with_reducible repeat (first | exact List.Mem.head _ | apply List.Mem.tail)); done | (repeat (first | exact List.Mem.head _ | apply List.Mem.tail)))) one3 rfl ?_
      refine D_bin (GC.some rfl rfl) (OpV.s rfl) OpV.c (fun hg => bv_neq) ?_
      refine D_move (GC.some rfl rfl) (OpV.s rfl) ?_
      refine D_move (GC.some rfl rfl) (OpV.t rfl) ?_
      refine D_bin (GC.some rfl rfl) (OpV.s rfl) OpV.c (fun hg => bv_neq) ?_
      refine D_move (GC.some rfl rfl) (OpV.s rfl) ?_
      refine D_fieldAddr (GC.some rfl rfl) (OpV.t rfl) fld129_6 ?_
      refine D_load (GC.some rfl rfl) (OpV.s rfl) (fun hg => RdC.blk (by first | (with_reducible repeat (first | exact List.Mem.head _ | apply List.Mem.tail)); done | (repeat (first | exact List.Mem.head _ | apply List.Mem.tail)))) one3 rfl ?_
      refine D_callX (GC.some rfl rfl) fn123 (OpVs.cons (OpV.s rfl) (OpVs.cons OpV.c (OpVs.cons OpV.c (OpVs.nil)))) (by exact fun hg w F hF hM => s_l1In_walk w a0_7 0 9  _ (hy10 (gand (gand (gnot hg.1.1.2) hg.1.2) (gnot hg.2)))) ?_
      refine D_not (GC.some rfl rfl) (OpV.s rfl) ?_
      refine D_or (cy := _) (GC.some rfl rfl) (OpV.s rfl) (OpV.s rfl) (fun h hb => ⟨h, hb⟩) ?_
      refine D_and (cy := _) (GC.some rfl rfl) (OpV.s rfl) (OpV.s rfl) (fun h hb => ⟨h, hb⟩) ?_
      refine D_or (cy := _) GC.none (OpV.t rfl) (OpV.s rfl) (fun h hb => ⟨h, hb⟩) ?_
      refine DV_nil ?_
      refine Give_is rfl rfl ?_
      refine Give_drop rfl ?_
      refine Give_drop rfl ?_
      refine Give_drop rfl ?_
      refine Give_drop rfl ?_
      refine Give_drop rfl ?_
      refine Give_drop rfl ?_
      refine Give_drop rfl ?_
      refine Give_drop rfl ?_
      refine Give_drop rfl ?_
      refine Give_drop rfl ?_
      refine Give_drop rfl ?_
      refine Give_drop rfl ?_
      refine Give_drop rfl ?_
      refine Give_drop rfl ?_
      refine Give_drop rfl ?_
      refine Give_drop rfl ?_
      refine Give_drop rfl ?_
      refine Give_drop rfl ?_
      refine Give_drop rfl ?_
      refine Give_drop rfl ?_
      refine Give_drop rfl ?_
      refine Give_drop rfl ?_
      refine Give_drop rfl ?_
      refine Give_drop rfl ?_
      refine Give_drop rfl ?_
      refine Give_drop rfl ?_
      refine Give_drop rfl ?_
      refine Give_drop rfl ?_
      refine Give_drop rfl ?_
      refine Give_drop rfl ?_
      refine Give_drop rfl ?_
      refine Give_drop rfl ?_
      refine Give_drop rfl ?_
      refine Give_drop rfl ?_
      refine Give_drop rfl ?_
      refine Give_drop rfl ?_
      refine Give_drop rfl ?_
      refine Give_drop rfl ?_
      refine Give_drop rfl ?_
      refine Give_drop rfl ?_
      refine Give_drop rfl ?_
      refine Give_drop rfl ?_
      refine Give_drop rfl ?_
      refine Give_drop rfl ?_
      refine Give_drop rfl ?_
      refine Give_drop rfl ?_
      refine Give_drop rfl ?_
      refine Give_drop rfl ?_
      refine Give_drop rfl ?_
      refine Give_drop rfl ?_
      refine Give_drop rfl ?_
      refine Give_drop rfl ?_
      refine Give_nil ?_
      refine W_weaken (l' := [(1, _), (3, _), (69, _)]) (Sub.cons rfl (Sub.cons rfl (Sub.cons rfl (Sub.nil _)))) (MSub.refl _) ?_
      refine W_cond rfl (fun hc11 => ?_) (fun hc11 => ?_)
      · skip
        replace hp := cond_t hc11 hp
        refine W_seq ?_
        refine W_region ?_
        refine L_assign rfl rfl ?_
        refine L_nil ?_
        obtain rfl := Option.some.inj hp
        refine W_ret ?_
        refine res1 rfl (ResOK.tmp rfl) ⟨rfl, rfl⟩ (MSub.nil _)
      · skip
        replace hp := cond_f hc11 hp
        refine W_skip ?_
        refine W_seq ?_
        refine W_seq ?_
        refine W_region ?_
        refine L_move rfl rfl ?_
        refine L_binV rfl rfl rfl bv_neq ?_
        refine L_nil ?_
        refine W_weaken (l' := [(1, _), (71, _)]) (Sub.cons rfl (Sub.cons rfl (Sub.nil _))) (MSub.refl _) ?_
        refine W_cond rfl (fun hc12 => ?_) (fun hc12 => ?_)
        · skip
          replace hp := cond_t hc12 hp
          refine W_seq ?_
          refine W_region ?_
          refine L_fieldAddr rfl rfl fld129_7 ?_
          refine L_load rfl rfl (RdC.blk (by first | (with_reducible repeat (first | exact List.Mem.head _ | apply List.Mem.tail)); done | (repeat (first | exact List.Mem.head _ | apply List.Mem.tail)))) one48 rfl ?_
          refine L_lenP (X := a0_8) rfl rfl el48 ?_
          refine L_binV rfl rfl rfl bv_eql ?_
          refine L_assign rfl rfl ?_
          refine L_nil ?_
          obtain rfl := Option.some.inj hp
          refine W_ret ?_
          refine res1 rfl (ResOK.tmp rfl) ⟨rfl, rfl⟩ (MSub.nil _)
        · skip
          replace hp := cond_f hc12 hp
          refine W_skip ?_
          refine W_seq ?_
          refine W_seq ?_
          refine W_region ?_
          refine L_fieldAddr rfl rfl fld129_7 ?_
          refine L_load rfl rfl (RdC.blk (by first | (with_reducible repeat (first | exact List.Mem.head _ | apply List.Mem.tail)); done | (repeat (first | exact List.Mem.head _ | apply List.Mem.tail)))) one48 rfl ?_
          refine L_lenP (X := a0_8) rfl rfl el48 ?_
          have ho := hp; clear hp; obtain ⟨y13, hy13, hp⟩ := bind_any ho; clear ho
          refine L_callX rfl fn123 rfl (by exact fun w hw => s_l1In_walk w ((GT.dat a0_8).length : Int) 1 4  _ hy13) ?_
          refine L_not rfl rfl ?_
          refine L_nil ?_
          refine W_weaken (l' := [(1, _), (80, _)]) (Sub.cons rfl (Sub.cons rfl (Sub.nil _))) (MSub.refl _) ?_
          refine W_cond rfl (fun hc14 => ?_) (fun hc14 => ?_)
          · skip
            replace hp := cond_t hc14 hp
            refine W_seq ?_
            refine W_region ?_
            refine L_assign rfl rfl ?_
            refine L_nil ?_
            obtain rfl := Option.some.inj hp
            refine W_ret ?_
            refine res1 rfl (ResOK.tmp rfl) ⟨rfl, rfl⟩ (MSub.nil _)
          · skip
            replace hp := cond_f hc14 hp
            refine W_skip ?_
            refine W_seq ?_
            refine W_seq ?_
            refine W_region ?_
            refine L_assign rfl rfl ?_
            refine L_nil ?_
            refine W_block ?_
            refine W_while (σ := Int) GT.dat (fun (v15_0 : Int) => [(4, .int .i64 v15_0)]) (fun (v15_0 : Int) => []) [(1, _)] [blk bk1 _ _] 0 hp (Sub.cons rfl (Sub.cons rfl (Sub.nil _))) (MSub.cons (by first | (with_reducible repeat (first | exact Pick.here _ | apply Pick.there)); done | (repeat (first | exact Pick.here _ | apply Pick.there))) (MSub.nil _)) ?_
            clear hp
            rintro v15_0 x15 hp hx15
            try dsimp only [dat_pair, dat_int, dat_bool, dat_str] at hp
            refine W_weaken (l' := [(1, _), (4, _)]) (Sub.cons rfl (Sub.cons rfl (Sub.nil _))) (M' := [_]) (MSub.cons (by first | (with_reducible repeat (first | exact Pick.here _ | apply Pick.there)); done | (repeat (first | exact Pick.here _ | apply Pick.there))) (MSub.nil _)) ?_
            refine W_seq ?_
            refine W_seq ?_
            refine W_region ?_
            refine L_move rfl rfl ?_
            refine L_fieldAddr rfl rfl fld129_7 ?_
            refine L_load rfl rfl (RdC.blk (by first | (with_reducible repeat (first | exact List.Mem.head _ | apply List.Mem.tail)); done | (repeat (first | exact List.Mem.head _ | apply List.Mem.tail)))) one48 rfl ?_
            refine L_lenP (X := a0_8) rfl rfl el48 ?_
            refine L_binV rfl rfl rfl bv_lss ?_
            refine L_nil ?_
            refine W_weaken (l' := [(1, _), (4, _), (85, _)]) (Sub.cons rfl (Sub.cons rfl (Sub.cons rfl (Sub.nil _)))) (MSub.refl _) ?_
            refine W_cond rfl (fun hc16 => ?_) (fun hc16 => ?_)
            · skip
              replace hp := cond_t hc16 hp
              refine W_skip ?_
              refine W_seq ?_
              refine W_block ?_
              refine W_seq ?_
              refine W_region ?_
              refine L_fieldAddr rfl rfl fld129_7 ?_
              refine L_load rfl rfl (RdC.blk (by first | (with_reducible repeat (first | exact List.Mem.head _ | apply List.Mem.tail)); done | (repeat (first | exact List.Mem.head _ | apply List.Mem.tail)))) one48 rfl ?_
              refine L_move rfl rfl ?_
              have ho := hp; clear hp; obtain ⟨u17, hy17, hp⟩ := idx_bind ho; clear ho
              refine L_idxA (X := a0_8) rfl rfl rfl el48 (RdT.old h0.2.2.2.2.2.2.2) hy17 ?_
              refine L_load0 rfl rfl (RdT.at (RdT.old h0.2.2.2.2.2.2.2) (hy17).2) one9 rfl ?_
              refine L_lenT rfl rfl str9 ?_
              refine L_binV rfl rfl rfl bv_neq ?_
              refine L_nil ?_
              refine W_weaken (l' := [(1, _), (4, _), (94, _)]) (Sub.cons rfl (Sub.cons rfl (Sub.cons rfl (Sub.nil _)))) (MSub.refl _) ?_
              refine W_cond rfl (fun hc18 => ?_) (fun hc18 => ?_)
              · skip
                replace hp := cond_t hc18 hp
                refine W_seq ?_
                refine W_region ?_
                refine L_assign rfl rfl ?_
                refine L_nil ?_
                have ho := hp; clear hp; obtain ⟨a19, hp, hx_a19⟩ := map_any ho; clear ho
                obtain rfl := hx15 _ hx_a19
                obtain rfl := Option.some.inj hp
                refine W_ret ?_
                refine res1 rfl (ResOK.tmp rfl) ⟨rfl, rfl⟩ (MSub.nil _)
              · skip
                replace hp := cond_f hc18 hp
                refine W_skip ?_
                refine W_region ?_
                refine L_move rfl rfl ?_
                refine L_binV rfl rfl rfl bv_add ?_
                refine L_assign rfl rfl ?_
                refine L_nil ?_
                exact ⟨IntKind.wrap .i64 (v15_0 + 1), (Sub.cons rfl (Sub.cons rfl (Sub.nil _))), (Arr.sub (MSub.cons (by first | (with_reducible repeat (first | exact Pick.here _ | apply Pick.there)); done | (repeat (first | exact Pick.here _ | apply Pick.there))) (MSub.nil _))), some_eq hp⟩
            · skip
              replace hp := cond_f hc16 hp
              refine W_exit ?_
              have ho := hp; clear hp; obtain ⟨a20, hp, hx_a20⟩ := map_any ho; clear ho
              obtain rfl := hx15 _ hx_a20
              refine W_seq ?_
              refine W_region ?_
              refine L_assign rfl rfl ?_
              refine L_nil ?_
              obtain rfl := Option.some.inj hp
              refine W_ret ?_
              refine res1 rfl (ResOK.tmp rfl) ⟨rfl, rfl⟩ (MSub.nil _)

noncomputable def sl_Equal_stringstring (a0 : List ByteArray) (a1 : List ByteArray) : Option Bool :=
  cond (!decide ((a0.length : Int) = (a1.length : Int))) (some false) (whileP (fun s2 : Int => cond (decide (s2 < (a0.length : Int))) (Option.bind (idx a0 s2) (fun y4 => Option.bind (idx a1 s2) (fun y5 => cond (!decide (y4 = y5)) (Option.map .inr (some false)) (some (.inl (IntKind.wrap .i64 (s2 + 1))))))) (Option.map .inr (some true))) 0)

theorem sl_Equal_stringstring_walk (w : World) (a0 : TL ByteArray) (a1 : TL ByteArray) (h0 : GT.rd w [] a0) (h1 : GT.rd w [] a1) (r : Bool) (hp : sl_Equal_stringstring (GT.dat a0) (GT.dat a1) = some r) : Spec Try.prog 287 [(TL.hdr a0), (TL.hdr a1)].toArray w [] (IsV (.bool r)) := by
  refine Spec.intro Try.func287 rfl Try.ntmps287 rfl ?_
  unfold sl_Equal_stringstring at hp
  try dsimp only [dat_pair, dat_int, dat_bool, dat_str] at hp
  refine W_seq ?_
  refine W_region ?_
  refine L_assign rfl rfl ?_
  refine L_nil ?_
  refine W_seq ?_
  refine W_seq ?_
  refine W_region ?_
  refine L_move rfl rfl ?_
  refine L_lenP (X := a0) rfl rfl el48 ?_
  refine L_move rfl rfl ?_
  refine L_lenP (X := a1) rfl rfl el48 ?_
  refine L_binV rfl rfl rfl bv_neq ?_
  refine L_nil ?_
  refine W_weaken (l' := [(0, _), (1, _), (10, _)]) (Sub.cons rfl (Sub.cons rfl (Sub.cons rfl (Sub.nil _)))) (MSub.refl _) ?_
  refine W_cond rfl (fun hc1 => ?_) (fun hc1 => ?_)
  · skip
    replace hp := cond_t hc1 hp
    refine W_seq ?_
    refine W_region ?_
    refine L_assign rfl rfl ?_
    refine L_nil ?_
    obtain rfl := Option.some.inj hp
    refine W_ret ?_
    refine res1 rfl (ResOK.tmp rfl) ⟨rfl, rfl⟩ (MSub.nil _)
  · skip
    replace hp := cond_f hc1 hp
    refine W_skip ?_
    refine W_seq ?_
    refine W_seq ?_
    refine W_region ?_
    refine L_move rfl rfl ?_
    refine L_lenP (X := a0) rfl rfl el48 ?_
    refine L_move rfl rfl ?_
    refine L_nil ?_
    refine W_block ?_
    refine W_while (σ := Int) GT.dat (fun (v2_0 : Int) => [(13, .int .i64 v2_0)]) (fun (v2_0 : Int) => []) [(0, _), (1, _), (12, _)] [] 0 hp (Sub.cons rfl (Sub.cons rfl (Sub.cons rfl (Sub.cons rfl (Sub.nil _))))) (MSub.nil _) ?_
    clear hp
    rintro v2_0 x2 hp hx2
    try dsimp only [dat_pair, dat_int, dat_bool, dat_str] at hp
    refine W_weaken (l' := [(0, _), (1, _), (12, _), (13, _)]) (Sub.cons rfl (Sub.cons rfl (Sub.cons rfl (Sub.cons rfl (Sub.nil _))))) (M' := []) (MSub.nil _) ?_
    refine W_seq ?_
    refine W_region ?_
    refine L_binV rfl rfl rfl bv_lss ?_
    refine L_nil ?_
    refine W_seq ?_
    refine W_weaken (l' := [(0, _), (1, _), (12, _), (13, _), (14, _)]) (Sub.cons rfl (Sub.cons rfl (Sub.cons rfl (Sub.cons rfl (Sub.cons rfl (Sub.nil _)))))) (MSub.refl _) ?_
    refine W_cond rfl (fun hc3 => ?_) (fun hc3 => ?_)
    · skip
      replace hp := cond_t hc3 hp
      refine W_skip ?_
      refine W_seq ?_
      refine W_block ?_
      refine W_seq ?_
      refine W_region ?_
      refine L_move rfl rfl ?_
      refine L_assign rfl rfl ?_
      refine L_nil ?_
      refine W_seq ?_
      have ho := hp; clear hp; obtain ⟨u4, hy4, hp⟩ := idx_bind ho; clear ho
      have ho := hp; clear hp; obtain ⟨u5, hy5, hp⟩ := idx_bind ho; clear ho
      refine W_D0 [24] mix (by kernel_rfl) rfl ?_
      refine D_move GC.none (OpV.t rfl) ?_
      refine D_move GC.none (OpV.t rfl) ?_
      refine D_idxA (X := a0) GC.none (OpV.t rfl) (OpV.t rfl) el48 (RdT.old h0) (fun _ => hy4) ?_
      refine D_load0 GC.none (OpV.t rfl) (fun hg => RdT.at (RdT.old h0) (hy4).2) one9 rfl ?_
      refine D_move GC.none (OpV.t rfl) ?_
      refine D_move GC.none (OpV.t rfl) ?_
      refine D_idxA (X := a1) GC.none (OpV.t rfl) (OpV.t rfl) el48 (RdT.old h1) (fun _ => hy5) ?_
      refine D_load0 GC.none (OpV.t rfl) (fun hg => RdT.at (RdT.old h1) (hy5).2) one9 rfl ?_
      refine D_bin GC.none (OpV.t rfl) (OpV.t rfl) (fun hg => bv_sneq) ?_
      refine DV_nil ?_
      refine Give_is rfl rfl ?_
      refine Give_drop rfl ?_
      refine Give_drop rfl ?_
      refine Give_drop rfl ?_
      refine Give_drop rfl ?_
      refine Give_drop rfl ?_
      refine Give_drop rfl ?_
      refine Give_drop rfl ?_
      refine Give_drop rfl ?_
      refine Give_nil ?_
      refine W_weaken (l' := [(0, _), (1, _), (12, _), (13, _), (24, _)]) (Sub.cons rfl (Sub.cons rfl (Sub.cons rfl (Sub.cons rfl (Sub.cons rfl (Sub.nil _)))))) (MSub.refl _) ?_
      refine W_cond rfl (fun hc6 => ?_) (fun hc6 => ?_)
      · skip
        replace hp := cond_t hc6 hp
        refine W_seq ?_
        refine W_region ?_
        refine L_assign rfl rfl ?_
        refine L_nil ?_
        have ho := hp; clear hp; obtain ⟨a7, hp, hx_a7⟩ := map_any ho; clear ho
        obtain rfl := hx2 _ hx_a7
        obtain rfl := Option.some.inj hp
        refine W_ret ?_
        refine res1 rfl (ResOK.tmp rfl) ⟨rfl, rfl⟩ (MSub.nil _)
      · skip
        replace hp := cond_f hc6 hp
        refine W_skip ?_
        refine W_region ?_
        refine L_binV rfl rfl rfl bv_add ?_
        refine L_move rfl rfl ?_
        refine L_nil ?_
        exact ⟨IntKind.wrap .i64 (v2_0 + 1), (Sub.cons rfl (Sub.cons rfl (Sub.cons rfl (Sub.cons rfl (Sub.nil _))))), (Arr.sub (MSub.nil _)), some_eq hp⟩
    · skip
      replace hp := cond_f hc3 hp
      refine W_exit ?_
      have ho := hp; clear hp; obtain ⟨a8, hp, hx_a8⟩ := map_any ho; clear ho
      obtain rfl := hx2 _ hx_a8
      refine W_seq ?_
      refine W_region ?_
      refine L_assign rfl rfl ?_
      refine L_nil ?_
      obtain rfl := Option.some.inj hp
      refine W_ret ?_
      refine res1 rfl (ResOK.tmp rfl) ⟨rfl, rfl⟩ (MSub.nil _)

noncomputable def i_SameCmd (a0 : D_Cmd) (a1 : D_Cmd) : Option Bool :=
  gb (((((((decide (a0.1 = a1.1)) && (decide (a0.2.1 = a1.2.1))) && (decide (a0.2.2.1 = a1.2.2.1))) && (decide (a0.2.2.2.1 = a1.2.2.2.1))) && (decide (a0.2.2.2.2.1 = a1.2.2.2.2.1))) && (decide (a0.2.2.2.2.2.1 = a1.2.2.2.2.2.1))) && (decide (a0.2.2.2.2.2.2.1 = a1.2.2.2.2.2.2.1))) (sl_Equal_stringstring a0.2.2.2.2.2.2.2 a1.2.2.2.2.2.2.2) (fun y1 => some ((((((((decide (a0.1 = a1.1)) && (decide (a0.2.1 = a1.2.1))) && (decide (a0.2.2.1 = a1.2.2.1))) && (decide (a0.2.2.2.1 = a1.2.2.2.1))) && (decide (a0.2.2.2.2.1 = a1.2.2.2.2.1))) && (decide (a0.2.2.2.2.2.1 = a1.2.2.2.2.2.1))) && (decide (a0.2.2.2.2.2.2.1 = a1.2.2.2.2.2.2.1))) && y1))

theorem i_SameCmd_walk (w : World) (a0 : T_Cmd) (a1 : T_Cmd) (h0 : GT.rd w [] a0) (h1 : GT.rd w [] a1) (r : Bool) (hp : i_SameCmd (GT.dat a0) (GT.dat a1) = some r) : Spec Try.prog 242 [.agg (GT.cells a0).toArray, .agg (GT.cells a1).toArray].toArray w [] (IsV (.bool r)) := by
  obtain ⟨a0_1, a0_2, a0_3, a0_4, a0_5, a0_6, a0_7, a0_8⟩ := a0
  obtain ⟨a1_1, a1_2, a1_3, a1_4, a1_5, a1_6, a1_7, a1_8⟩ := a1
  change Spec _ _ ([Value.agg #[.int .i64 a0_1, .int .i64 a0_2, .int .i64 a0_3, .string a0_4, .string a0_5, .string a0_6, .int .i64 a0_7, (TL.hdr a0_8)], Value.agg #[.int .i64 a1_1, .int .i64 a1_2, .int .i64 a1_3, .string a1_4, .string a1_5, .string a1_6, .int .i64 a1_7, (TL.hdr a1_8)]] : List Value).toArray w [] _
  refine Spec.intro Try.func242 rfl Try.ntmps242 rfl ?_
  unfold i_SameCmd at hp
  try dsimp only [dat_pair, dat_int, dat_bool, dat_str] at hp
  refine W_seq ?_
  refine W_region ?_
  refine L_box rfl rfl (fun bk2 => ?_)
  refine L_box rfl rfl (fun bk3 => ?_)
  refine L_assign rfl rfl ?_
  refine L_nil ?_
  refine W_seq ?_
  have ho := hp; clear hp; obtain ⟨y1, hy1, hp⟩ := gb_any ho; clear ho
  refine W_D0 [4] mix (by kernel_rfl) rfl ?_
  refine D_fieldAddr GC.none (OpV.t rfl) fld129_0 ?_
  refine D_load GC.none (OpV.t rfl) (fun hg => RdC.blk (by first | (with_reducible repeat (first | exact List.Mem.head _ | apply List.Mem.tail)); done | (repeat (first | exact List.Mem.head _ | apply List.Mem.tail)))) one3 rfl ?_
  refine D_fieldAddr GC.none (OpV.t rfl) fld129_0 ?_
  refine D_load GC.none (OpV.t rfl) (fun hg => RdC.blk (by first | (with_reducible repeat (first | exact List.Mem.head _ | apply List.Mem.tail)); done | (repeat (first | exact List.Mem.head _ | apply List.Mem.tail)))) one3 rfl ?_
  refine D_bin GC.none (OpV.t rfl) (OpV.t rfl) (fun hg => bv_eql) ?_
  refine D_move GC.none (OpV.t rfl) ?_
  refine D_fieldAddr (GC.some rfl rfl) (OpV.t rfl) fld129_1 ?_
  refine D_load (GC.some rfl rfl) (OpV.s rfl) (fun hg => RdC.blk (by first | (with_reducible repeat (first | exact List.Mem.head _ | apply List.Mem.tail)); done | (repeat (first | exact List.Mem.head _ | apply List.Mem.tail)))) one3 rfl ?_
  refine D_fieldAddr (GC.some rfl rfl) (OpV.t rfl) fld129_1 ?_
  refine D_load (GC.some rfl rfl) (OpV.s rfl) (fun hg => RdC.blk (by first | (with_reducible repeat (first | exact List.Mem.head _ | apply List.Mem.tail)); done | (repeat (first | exact List.Mem.head _ | apply List.Mem.tail)))) one3 rfl ?_
  refine D_bin (GC.some rfl rfl) (OpV.s rfl) (OpV.s rfl) (fun hg => bv_eql) ?_
  refine D_and (cy := _) GC.none (OpV.t rfl) (OpV.s rfl) (fun h hb => ⟨h, hb⟩) ?_
  refine D_move GC.none (OpV.t rfl) ?_
  refine D_fieldAddr (GC.some rfl rfl) (OpV.t rfl) fld129_2 ?_
  refine D_load (GC.some rfl rfl) (OpV.s rfl) (fun hg => RdC.blk (by first | (with_reducible repeat (first | exact List.Mem.head _ | apply List.Mem.tail)); done | (repeat (first | exact List.Mem.head _ | apply List.Mem.tail)))) one3 rfl ?_
  refine D_fieldAddr (GC.some rfl rfl) (OpV.t rfl) fld129_2 ?_
  refine D_load (GC.some rfl rfl) (OpV.s rfl) (fun hg => RdC.blk (by first | (with_reducible repeat (first | exact List.Mem.head _ | apply List.Mem.tail)); done | (repeat (first | exact List.Mem.head _ | apply List.Mem.tail)))) one3 rfl ?_
  refine D_bin (GC.some rfl rfl) (OpV.s rfl) (OpV.s rfl) (fun hg => bv_eql) ?_
  refine D_and (cy := _) GC.none (OpV.t rfl) (OpV.s rfl) (fun h hb => ⟨h, hb⟩) ?_
  refine D_move GC.none (OpV.t rfl) ?_
  refine D_fieldAddr (GC.some rfl rfl) (OpV.t rfl) fld129_3 ?_
  refine D_load (GC.some rfl rfl) (OpV.s rfl) (fun hg => RdC.blk (by first | (with_reducible repeat (first | exact List.Mem.head _ | apply List.Mem.tail)); done | (repeat (first | exact List.Mem.head _ | apply List.Mem.tail)))) one9 rfl ?_
  refine D_fieldAddr (GC.some rfl rfl) (OpV.t rfl) fld129_3 ?_
  refine D_load (GC.some rfl rfl) (OpV.s rfl) (fun hg => RdC.blk (by first | (with_reducible repeat (first | exact List.Mem.head _ | apply List.Mem.tail)); done | (repeat (first | exact List.Mem.head _ | apply List.Mem.tail)))) one9 rfl ?_
  refine D_bin (GC.some rfl rfl) (OpV.s rfl) (OpV.s rfl) (fun hg => bv_seql) ?_
  refine D_and (cy := _) GC.none (OpV.t rfl) (OpV.s rfl) (fun h hb => ⟨h, hb⟩) ?_
  refine D_move GC.none (OpV.t rfl) ?_
  refine D_fieldAddr (GC.some rfl rfl) (OpV.t rfl) fld129_4 ?_
  refine D_load (GC.some rfl rfl) (OpV.s rfl) (fun hg => RdC.blk (by first | (with_reducible repeat (first | exact List.Mem.head _ | apply List.Mem.tail)); done | (repeat (first | exact List.Mem.head _ | apply List.Mem.tail)))) one9 rfl ?_
  refine D_fieldAddr (GC.some rfl rfl) (OpV.t rfl) fld129_4 ?_
  refine D_load (GC.some rfl rfl) (OpV.s rfl) (fun hg => RdC.blk (by first | (with_reducible repeat (first | exact List.Mem.head _ | apply List.Mem.tail)); done | (repeat (first | exact List.Mem.head _ | apply List.Mem.tail)))) one9 rfl ?_
  refine D_bin (GC.some rfl rfl) (OpV.s rfl) (OpV.s rfl) (fun hg => bv_seql) ?_
  refine D_and (cy := _) GC.none (OpV.t rfl) (OpV.s rfl) (fun h hb => ⟨h, hb⟩) ?_
  refine D_move GC.none (OpV.t rfl) ?_
  refine D_fieldAddr (GC.some rfl rfl) (OpV.t rfl) fld129_5 ?_
  refine D_load (GC.some rfl rfl) (OpV.s rfl) (fun hg => RdC.blk (by first | (with_reducible repeat (first | exact List.Mem.head _ | apply List.Mem.tail)); done | (repeat (first | exact List.Mem.head _ | apply List.Mem.tail)))) one9 rfl ?_
  refine D_fieldAddr (GC.some rfl rfl) (OpV.t rfl) fld129_5 ?_
  refine D_load (GC.some rfl rfl) (OpV.s rfl) (fun hg => RdC.blk (by first | (with_reducible repeat (first | exact List.Mem.head _ | apply List.Mem.tail)); done | (repeat (first | exact List.Mem.head _ | apply List.Mem.tail)))) one9 rfl ?_
  refine D_bin (GC.some rfl rfl) (OpV.s rfl) (OpV.s rfl) (fun hg => bv_seql) ?_
  refine D_and (cy := _) GC.none (OpV.t rfl) (OpV.s rfl) (fun h hb => ⟨h, hb⟩) ?_
  refine D_move GC.none (OpV.t rfl) ?_
  refine D_fieldAddr (GC.some rfl rfl) (OpV.t rfl) fld129_6 ?_
  refine D_load (GC.some rfl rfl) (OpV.s rfl) (fun hg => RdC.blk (by first | (with_reducible repeat (first | exact List.Mem.head _ | apply List.Mem.tail)); done | (repeat (first | exact List.Mem.head _ | apply List.Mem.tail)))) one3 rfl ?_
  refine D_fieldAddr (GC.some rfl rfl) (OpV.t rfl) fld129_6 ?_
  refine D_load (GC.some rfl rfl) (OpV.s rfl) (fun hg => RdC.blk (by first | (with_reducible repeat (first | exact List.Mem.head _ | apply List.Mem.tail)); done | (repeat (first | exact List.Mem.head _ | apply List.Mem.tail)))) one3 rfl ?_
  refine D_bin (GC.some rfl rfl) (OpV.s rfl) (OpV.s rfl) (fun hg => bv_eql) ?_
  refine D_and (cy := _) GC.none (OpV.t rfl) (OpV.s rfl) (fun h hb => ⟨h, hb⟩) ?_
  refine D_move GC.none (OpV.t rfl) ?_
  refine D_fieldAddr (GC.some rfl rfl) (OpV.t rfl) fld129_7 ?_
  refine D_load (GC.some rfl rfl) (OpV.s rfl) (fun hg => RdC.blk (by first | (with_reducible repeat (first | exact List.Mem.head _ | apply List.Mem.tail)); done | (repeat (first | exact List.Mem.head _ | apply List.Mem.tail)))) one48 rfl ?_
  refine D_fieldAddr (GC.some rfl rfl) (OpV.t rfl) fld129_7 ?_
  refine D_load (GC.some rfl rfl) (OpV.s rfl) (fun hg => RdC.blk (by first | (with_reducible repeat (first | exact List.Mem.head _ | apply List.Mem.tail)); done | (repeat (first | exact List.Mem.head _ | apply List.Mem.tail)))) one48 rfl ?_
  refine D_callX (GC.some rfl rfl) fn287 (OpVs.cons (OpV.s rfl) (OpVs.cons (OpV.s rfl) (OpVs.nil))) (by exact fun hg w F hF hM => sl_Equal_stringstring_walk w a0_8 a1_8 (RdT.nowS (RdT.old h0.2.2.2.2.2.2.2) hF hM) (RdT.nowS (RdT.old h1.2.2.2.2.2.2.2) hF hM) _ (hy1 hg.2)) ?_
  refine D_and (cy := _) GC.none (OpV.t rfl) (OpV.s rfl) (fun h hb => ⟨h, hb⟩) ?_
  refine D_assign GC.none (OpV.t rfl) ?_
  refine DV_nil ?_
  refine Give_is rfl rfl ?_
  refine Give_drop rfl ?_
  refine Give_drop rfl ?_
  refine Give_drop rfl ?_
  refine Give_drop rfl ?_
  refine Give_drop rfl ?_
  refine Give_drop rfl ?_
  refine Give_drop rfl ?_
  refine Give_drop rfl ?_
  refine Give_drop rfl ?_
  refine Give_drop rfl ?_
  refine Give_drop rfl ?_
  refine Give_drop rfl ?_
  refine Give_drop rfl ?_
  refine Give_drop rfl ?_
  refine Give_drop rfl ?_
  refine Give_drop rfl ?_
  refine Give_drop rfl ?_
  refine Give_drop rfl ?_
  refine Give_drop rfl ?_
  refine Give_drop rfl ?_
  refine Give_drop rfl ?_
  refine Give_drop rfl ?_
  refine Give_drop rfl ?_
  refine Give_drop rfl ?_
  refine Give_drop rfl ?_
  refine Give_drop rfl ?_
  refine Give_drop rfl ?_
  refine Give_drop rfl ?_
  refine Give_drop rfl ?_
  refine Give_drop rfl ?_
  refine Give_drop rfl ?_
  refine Give_drop rfl ?_
  refine Give_drop rfl ?_
  refine Give_drop rfl ?_
  refine Give_drop rfl ?_
  refine Give_drop rfl ?_
  refine Give_drop rfl ?_
  refine Give_drop rfl ?_
  refine Give_drop rfl ?_
  refine Give_drop rfl ?_
  refine Give_drop rfl ?_
  refine Give_drop rfl ?_
  refine Give_drop rfl ?_
  refine Give_drop rfl ?_
  refine Give_drop rfl ?_
  refine Give_drop rfl ?_
  refine Give_drop rfl ?_
  refine Give_drop rfl ?_
  refine Give_drop rfl ?_
  refine Give_drop rfl ?_
  refine Give_drop rfl ?_
  refine Give_drop rfl ?_
  refine Give_drop rfl ?_
  refine Give_drop rfl ?_
  refine Give_nil ?_
  obtain rfl := Option.some.inj hp
  refine W_ret ?_
  refine res1 rfl (ResOK.tmp rfl) ⟨rfl, rfl⟩ (MSub.nil _)

noncomputable def i_isWord (a0 : ByteArray) : Option Bool :=
  whileP (fun s1 : Int => cond (decide (s1 < (a0.size : Int))) (Option.bind (sidx a0 s1) (fun y3 => gb (!(decide (y3 < 97))) (sidx a0 s1) (fun y4 => cond ((decide (y3 < 97)) || (decide (122 < y4))) (Option.map .inr (some false)) (some (.inl (IntKind.wrap .i64 (s1 + 1))))))) (Option.map .inr (Option.bind (i_within (a0.size : Int) 1 8) (fun y8 => some y8)))) 0

theorem i_isWord_walk (w : World) (a0 : ByteArray)  (r : Bool) (hp : i_isWord a0 = some r) : Spec Try.prog 261 [.string a0].toArray w [] (IsV (.bool r)) := by
  refine Spec.intro Try.func261 rfl Try.ntmps261 rfl ?_
  unfold i_isWord at hp
  try dsimp only [dat_pair, dat_int, dat_bool, dat_str] at hp
  refine W_seq ?_
  refine W_region ?_
  refine L_assign rfl rfl ?_
  refine L_nil ?_
  refine W_seq ?_
  refine W_seq ?_
  refine W_region ?_
  refine L_assign rfl rfl ?_
  refine L_nil ?_
  refine W_block ?_
  refine W_while (σ := Int) GT.dat (fun (v1_0 : Int) => [(3, .int .i64 v1_0)]) (fun (v1_0 : Int) => []) [(0, _)] [] 0 hp (Sub.cons rfl (Sub.cons rfl (Sub.nil _))) (MSub.nil _) ?_
  clear hp
  rintro v1_0 x1 hp hx1
  try dsimp only [dat_pair, dat_int, dat_bool, dat_str] at hp
  refine W_weaken (l' := [(0, _), (3, _)]) (Sub.cons rfl (Sub.cons rfl (Sub.nil _))) (M' := []) (MSub.nil _) ?_
  refine W_seq ?_
  refine W_seq ?_
  refine W_region ?_
  refine L_move rfl rfl ?_
  refine L_move rfl rfl ?_
  refine L_lenT rfl rfl str9 ?_
  refine L_binV rfl rfl rfl bv_lss ?_
  refine L_nil ?_
  refine W_weaken (l' := [(0, _), (3, _), (7, _)]) (Sub.cons rfl (Sub.cons rfl (Sub.cons rfl (Sub.nil _)))) (MSub.refl _) ?_
  refine W_cond rfl (fun hc2 => ?_) (fun hc2 => ?_)
  · skip
    replace hp := cond_t hc2 hp
    refine W_skip ?_
    refine W_seq ?_
    refine W_block ?_
    refine W_seq ?_
    have ho := hp; clear hp; obtain ⟨y3, hy3, hp⟩ := bind_any ho; clear ho
    have ho := hp; clear hp; obtain ⟨y4, hy4, hp⟩ := gb_any ho; clear ho
    refine W_D0 [19] mix (by kernel_rfl) rfl ?_
    refine D_move GC.none (OpV.t rfl) ?_
    refine D_move GC.none (OpV.t rfl) ?_
    refine D_idxS GC.none (OpV.t rfl) (OpV.t rfl) str9 (fun hg => hy3) ?_
    refine D_bin GC.none (OpV.t rfl) OpV.c (fun hg => bv_lss) ?_
    refine D_move GC.none (OpV.t rfl) ?_
    refine D_move (GC.some rfl rfl) (OpV.t rfl) ?_
    refine D_move (GC.some rfl rfl) (OpV.t rfl) ?_
    refine D_idxS (GC.some rfl rfl) (OpV.s rfl) (OpV.s rfl) str9 (fun hg => (hy4 (gnot hg.2))) ?_
    refine D_bin (GC.some rfl rfl) (OpV.s rfl) OpV.c (fun hg => bv_gtr) ?_
    refine D_or (cy := _) GC.none (OpV.t rfl) (OpV.s rfl) (fun h hb => ⟨h, hb⟩) ?_
    refine DV_nil ?_
    refine Give_is rfl rfl ?_
    refine Give_drop rfl ?_
    refine Give_drop rfl ?_
    refine Give_drop rfl ?_
    refine Give_drop rfl ?_
    refine Give_drop rfl ?_
    refine Give_drop rfl ?_
    refine Give_drop rfl ?_
    refine Give_drop rfl ?_
    refine Give_drop rfl ?_
    refine Give_nil ?_
    refine W_weaken (l' := [(0, _), (3, _), (19, _)]) (Sub.cons rfl (Sub.cons rfl (Sub.cons rfl (Sub.nil _)))) (MSub.refl _) ?_
    refine W_cond rfl (fun hc5 => ?_) (fun hc5 => ?_)
    · skip
      replace hp := cond_t hc5 hp
      refine W_seq ?_
      refine W_region ?_
      refine L_assign rfl rfl ?_
      refine L_nil ?_
      have ho := hp; clear hp; obtain ⟨a6, hp, hx_a6⟩ := map_any ho; clear ho
      obtain rfl := hx1 _ hx_a6
      obtain rfl := Option.some.inj hp
      refine W_ret ?_
      refine res1 rfl (ResOK.tmp rfl) ⟨rfl, rfl⟩ (MSub.nil _)
    · skip
      replace hp := cond_f hc5 hp
      refine W_skip ?_
      refine W_region ?_
      refine L_move rfl rfl ?_
      refine L_binV rfl rfl rfl bv_add ?_
      refine L_assign rfl rfl ?_
      refine L_nil ?_
      exact ⟨IntKind.wrap .i64 (v1_0 + 1), (Sub.cons rfl (Sub.cons rfl (Sub.nil _))), (Arr.sub (MSub.nil _)), some_eq hp⟩
  · skip
    replace hp := cond_f hc2 hp
    refine W_exit ?_
    have ho := hp; clear hp; obtain ⟨a7, hp, hx_a7⟩ := map_any ho; clear ho
    obtain rfl := hx1 _ hx_a7
    refine W_seq ?_
    refine W_region ?_
    refine L_move rfl rfl ?_
    refine L_lenT rfl rfl str9 ?_
    have ho := hp; clear hp; obtain ⟨y8, hy8, hp⟩ := bind_any ho; clear ho
    refine L_callX rfl fn119 rfl (by exact fun w hw => i_within_walk w (a0.size : Int) 1 8  _ hy8) ?_
    refine L_assign rfl rfl ?_
    refine L_nil ?_
    obtain rfl := Option.some.inj hp
    refine W_ret ?_
    refine res1 rfl (ResOK.tmp rfl) ⟨rfl, rfl⟩ (MSub.nil _)

noncomputable def i_wordIf (a0 : ByteArray) (a1 : Bool) : Option Bool :=
  cond a1 (Option.bind (i_isWord a0) (fun y2 => some y2)) (some (decide (a0 = ByteArray.empty)))

theorem i_wordIf_walk (w : World) (a0 : ByteArray) (a1 : Bool)  (r : Bool) (hp : i_wordIf a0 a1 = some r) : Spec Try.prog 243 [.string a0, .bool a1].toArray w [] (IsV (.bool r)) := by
  refine Spec.intro Try.func243 rfl Try.ntmps243 rfl ?_
  unfold i_wordIf at hp
  try dsimp only [dat_pair, dat_int, dat_bool, dat_str] at hp
  refine W_seq ?_
  refine W_region ?_
  refine L_assign rfl rfl ?_
  refine L_nil ?_
  refine W_seq ?_
  refine W_seq ?_
  refine W_region ?_
  refine L_move rfl rfl ?_
  refine L_nil ?_
  refine W_weaken (l' := [(0, _), (5, _)]) (Sub.cons rfl (Sub.cons rfl (Sub.nil _))) (MSub.refl _) ?_
  refine W_cond rfl (fun hc1 => ?_) (fun hc1 => ?_)
  · skip
    replace hp := cond_t hc1 hp
    refine W_seq ?_
    refine W_region ?_
    refine L_move rfl rfl ?_
    have ho := hp; clear hp; obtain ⟨y2, hy2, hp⟩ := bind_any ho; clear ho
    refine L_callX rfl fn261 rfl (by exact fun w hw => i_isWord_walk w a0  _ hy2) ?_
    refine L_assign rfl rfl ?_
    refine L_nil ?_
    obtain rfl := Option.some.inj hp
    refine W_ret ?_
    refine res1 rfl (ResOK.tmp rfl) ⟨rfl, rfl⟩ (MSub.nil _)
  · skip
    replace hp := cond_f hc1 hp
    refine W_skip ?_
    refine W_seq ?_
    refine W_region ?_
    refine L_move rfl rfl ?_
    refine L_binV rfl rfl rfl bv_seql ?_
    refine L_assign rfl rfl ?_
    refine L_nil ?_
    obtain rfl := Option.some.inj hp
    refine W_ret ?_
    refine res1 rfl (ResOK.tmp rfl) ⟨rfl, rfl⟩ (MSub.nil _)

noncomputable def i_areChunks (a0 : List ByteArray) : Option Bool :=
  whileP (fun s1 : Int => cond (decide (s1 < (a0.length : Int))) (Option.bind (idx a0 s1) (fun y3 => cond (!decide ((y3.size : Int) = 8)) (Option.map .inr (some false)) (some (.inl (IntKind.wrap .i64 (s1 + 1)))))) (Option.map .inr (some true))) 0

theorem i_areChunks_walk (w : World) (a0 : TL ByteArray) (h0 : GT.rd w [] a0) (r : Bool) (hp : i_areChunks (GT.dat a0) = some r) : Spec Try.prog 244 [(TL.hdr a0)].toArray w [] (IsV (.bool r)) := by
  refine Spec.intro Try.func244 rfl Try.ntmps244 rfl ?_
  unfold i_areChunks at hp
  try dsimp only [dat_pair, dat_int, dat_bool, dat_str] at hp
  refine W_seq ?_
  refine W_region ?_
  refine L_assign rfl rfl ?_
  refine L_nil ?_
  refine W_seq ?_
  refine W_seq ?_
  refine W_region ?_
  refine L_move rfl rfl ?_
  refine L_lenP (X := a0) rfl rfl el48 ?_
  refine L_move rfl rfl ?_
  refine L_nil ?_
  refine W_block ?_
  refine W_while (σ := Int) GT.dat (fun (v1_0 : Int) => [(7, .int .i64 v1_0)]) (fun (v1_0 : Int) => []) [(5, _), (6, _)] [] 0 hp (Sub.cons rfl (Sub.cons rfl (Sub.cons rfl (Sub.nil _)))) (MSub.nil _) ?_
  clear hp
  rintro v1_0 x1 hp hx1
  try dsimp only [dat_pair, dat_int, dat_bool, dat_str] at hp
  refine W_weaken (l' := [(5, _), (6, _), (7, _)]) (Sub.cons rfl (Sub.cons rfl (Sub.cons rfl (Sub.nil _)))) (M' := []) (MSub.nil _) ?_
  refine W_seq ?_
  refine W_region ?_
  refine L_binV rfl rfl rfl bv_lss ?_
  refine L_nil ?_
  refine W_seq ?_
  refine W_weaken (l' := [(5, _), (6, _), (7, _), (8, _)]) (Sub.cons rfl (Sub.cons rfl (Sub.cons rfl (Sub.cons rfl (Sub.nil _))))) (MSub.refl _) ?_
  refine W_cond rfl (fun hc2 => ?_) (fun hc2 => ?_)
  · skip
    replace hp := cond_t hc2 hp
    refine W_skip ?_
    refine W_seq ?_
    refine W_block ?_
    refine W_seq ?_
    refine W_region ?_
    have ho := hp; clear hp; obtain ⟨u3, hy3, hp⟩ := idx_bind ho; clear ho
    refine L_idxA (X := a0) rfl rfl rfl el48 (RdT.old h0) hy3 ?_
    refine L_load0 rfl rfl (RdT.at (RdT.old h0) (hy3).2) one9 rfl ?_
    refine L_assign rfl rfl ?_
    refine L_nil ?_
    refine W_seq ?_
    refine W_region ?_
    refine L_move rfl rfl ?_
    refine L_lenT rfl rfl str9 ?_
    refine L_binV rfl rfl rfl bv_neq ?_
    refine L_nil ?_
    refine W_weaken (l' := [(5, _), (6, _), (7, _), (13, _)]) (Sub.cons rfl (Sub.cons rfl (Sub.cons rfl (Sub.cons rfl (Sub.nil _))))) (MSub.refl _) ?_
    refine W_cond rfl (fun hc4 => ?_) (fun hc4 => ?_)
    · skip
      replace hp := cond_t hc4 hp
      refine W_seq ?_
      refine W_region ?_
      refine L_assign rfl rfl ?_
      refine L_nil ?_
      have ho := hp; clear hp; obtain ⟨a5, hp, hx_a5⟩ := map_any ho; clear ho
      obtain rfl := hx1 _ hx_a5
      obtain rfl := Option.some.inj hp
      refine W_ret ?_
      refine res1 rfl (ResOK.tmp rfl) ⟨rfl, rfl⟩ (MSub.nil _)
    · skip
      replace hp := cond_f hc4 hp
      refine W_skip ?_
      refine W_region ?_
      refine L_binV rfl rfl rfl bv_add ?_
      refine L_move rfl rfl ?_
      refine L_nil ?_
      exact ⟨IntKind.wrap .i64 (v1_0 + 1), (Sub.cons rfl (Sub.cons rfl (Sub.cons rfl (Sub.nil _)))), (Arr.sub (MSub.nil _)), some_eq hp⟩
  · skip
    replace hp := cond_f hc2 hp
    refine W_exit ?_
    have ho := hp; clear hp; obtain ⟨a6, hp, hx_a6⟩ := map_any ho; clear ho
    obtain rfl := hx1 _ hx_a6
    refine W_seq ?_
    refine W_region ?_
    refine L_assign rfl rfl ?_
    refine L_nil ?_
    obtain rfl := Option.some.inj hp
    refine W_ret ?_
    refine res1 rfl (ResOK.tmp rfl) ⟨rfl, rfl⟩ (MSub.nil _)

noncomputable def i_CmdOk (a0 : D_Cmd) : Option Bool :=
  cond (decide (a0.1 = 0)) (Option.bind (i_SameCmd (a0.1, a0.2.1, a0.2.2.1, a0.2.2.2.1, a0.2.2.2.2.1, a0.2.2.2.2.2.1, a0.2.2.2.2.2.2.1, a0.2.2.2.2.2.2.2) (0, 0, 0, ByteArray.empty, ByteArray.empty, ByteArray.empty, 0, ([] : List ByteArray))) (fun y2 => some y2)) (Option.bind (i_within a0.1 1 7) (fun y3 => gb (!(!y3)) (i_within a0.2.1 1 9) (fun y4 => gb (!((!y3) || (!y4))) (i_within a0.2.2.1 1 1000) (fun y5 => cond (((!y3) || (!y4)) || (!y5)) (some false) (Option.bind (i_wordIf a0.2.2.2.1 (!decide (a0.1 = 7))) (fun y7 => gb (!(!y7)) (i_wordIf a0.2.2.2.2.1 ((decide (a0.1 = 3)) || (decide (a0.1 = 4)))) (fun y8 => gb (!((!y7) || (!y8))) (i_wordIf a0.2.2.2.2.2.1 (decide (a0.1 = 4))) (fun y9 => cond (((!y7) || (!y8)) || (!y9)) (some false) (gb ((!decide (a0.2.2.2.2.2.2.1 = 0)) && (!(!decide (a0.1 = 5)))) (i_within a0.2.2.2.2.2.2.1 0 9) (fun y11 => cond ((!decide (a0.2.2.2.2.2.2.1 = 0)) && ((!decide (a0.1 = 5)) || (!y11))) (some false) (cond (decide (a0.1 = 3)) (Option.bind (i_within (a0.2.2.2.2.2.2.2.length : Int) 1 4) (fun y14 => gb y14 (i_areChunks a0.2.2.2.2.2.2.2) (fun y15 => some (y14 && y15)))) (some (decide ((a0.2.2.2.2.2.2.2.length : Int) = 0))))))))))))))

theorem i_CmdOk_walk (w : World) (a0 : T_Cmd) (h0 : GT.rd w [] a0) (r : Bool) (hp : i_CmdOk (GT.dat a0) = some r) : Spec Try.prog 180 [.agg (GT.cells a0).toArray].toArray w [] (IsV (.bool r)) := by
  obtain ⟨a0_1, a0_2, a0_3, a0_4, a0_5, a0_6, a0_7, a0_8⟩ := a0
  change Spec _ _ ([Value.agg #[.int .i64 a0_1, .int .i64 a0_2, .int .i64 a0_3, .string a0_4, .string a0_5, .string a0_6, .int .i64 a0_7, (TL.hdr a0_8)]] : List Value).toArray w [] _
  refine Spec.intro Try.func180 rfl Try.ntmps180 rfl ?_
  unfold i_CmdOk at hp
  try dsimp only [dat_pair, dat_int, dat_bool, dat_str] at hp
  refine W_seq ?_
  refine W_region ?_
  refine L_box rfl rfl (fun bk1 => ?_)
  refine L_assign rfl rfl ?_
  refine L_nil ?_
  refine W_seq ?_
  refine W_seq ?_
  refine W_region ?_
  refine L_fieldAddr rfl rfl fld129_0 ?_
  refine L_load rfl rfl (RdC.blk (by first | (with_reducible repeat (first | exact List.Mem.head _ | apply List.Mem.tail)); done | (repeat (first | exact List.Mem.head _ | apply List.Mem.tail)))) one3 rfl ?_
  refine L_binV rfl rfl rfl bv_eql ?_
  refine L_nil ?_
  refine W_weaken (l' := [(1, _), (5, _)]) (Sub.cons rfl (Sub.cons rfl (Sub.nil _))) (MSub.refl _) ?_
  refine W_cond rfl (fun hc1 => ?_) (fun hc1 => ?_)
  · skip
    replace hp := cond_t hc1 hp
    refine W_seq ?_
    refine W_region ?_
    refine L_loadW rfl rfl (RdC.blk (by first | (with_reducible repeat (first | exact List.Mem.head _ | apply List.Mem.tail)); done | (repeat (first | exact List.Mem.head _ | apply List.Mem.tail)))) (by exact agg129) ?_
    refine L_build (xs := []) (cs := [.int .i64 0, .int .i64 0, .int .i64 0, .string ByteArray.empty, .string ByteArray.empty, .string ByteArray.empty, .int .i64 0, (TL.hdr (TL.nil ByteArray 0))]) rfl rfl bld129 rfl ?_
    have ho := hp; clear hp; obtain ⟨y2, hy2, hp⟩ := bind_any ho; clear ho
    refine L_callX rfl fn242 rfl (by exact fun w hw => i_SameCmd_walk w (a0_1, a0_2, a0_3, a0_4, a0_5, a0_6, a0_7, a0_8) (0, 0, 0, ByteArray.empty, ByteArray.empty, ByteArray.empty, 0, (TL.nil ByteArray 0)) (RdT.now (RdT.pair RdT.int (RdT.pair RdT.int (RdT.pair RdT.int (RdT.pair RdT.str (RdT.pair RdT.str (RdT.pair RdT.str (RdT.pair RdT.int (RdT.old h0.2.2.2.2.2.2.2)))))))) hw) (RdT.now (RdT.pair RdT.int (RdT.pair RdT.int (RdT.pair RdT.int (RdT.pair RdT.str (RdT.pair RdT.str (RdT.pair RdT.str (RdT.pair RdT.int (RdT.nil 0)))))))) hw) _ hy2) ?_
    refine L_assign rfl rfl ?_
    refine L_nil ?_
    obtain rfl := Option.some.inj hp
    refine W_ret ?_
    refine res1 rfl (ResOK.tmp rfl) ⟨rfl, rfl⟩ (MSub.nil _)
  · skip
    replace hp := cond_f hc1 hp
    refine W_skip ?_
    refine W_seq ?_
    refine W_seq ?_
    have ho := hp; clear hp; obtain ⟨y3, hy3, hp⟩ := bind_any ho; clear ho
    have ho := hp; clear hp; obtain ⟨y4, hy4, hp⟩ := gb_any ho; clear ho
    have ho := hp; clear hp; obtain ⟨y5, hy5, hp⟩ := gb_any ho; clear ho
    refine W_D0 [24] mix (by kernel_rfl) rfl ?_
    refine D_fieldAddr GC.none (OpV.t rfl) fld129_0 ?_
    refine D_load GC.none (OpV.t rfl) (fun hg => RdC.blk (by first | (with_reducible repeat (first | exact List.Mem.head _ | apply List.Mem.tail)); done | (repeat (first | exact List.Mem.head _ | apply List.Mem.tail)))) one3 rfl ?_
    refine D_callX GC.none fn119 (OpVs.cons (OpV.t rfl) (OpVs.cons OpV.c (OpVs.cons OpV.c (OpVs.nil)))) (by exact fun hg w F hF hM => i_within_walk w a0_1 1 7  _ hy3) ?_
    refine D_not GC.none (OpV.t rfl) ?_
    refine D_move GC.none (OpV.t rfl) ?_
    refine D_fieldAddr (GC.some rfl rfl) (OpV.t rfl) fld129_1 ?_
    refine D_load (GC.some rfl rfl) (OpV.s rfl) (fun hg => RdC.blk (by first | (with_reducible repeat (first | exact List.Mem.head _ | apply List.Mem.tail)); done | (repeat (first | exact List.Mem.head _ | apply List.Mem.tail)))) one3 rfl ?_
    refine D_callX (GC.some rfl rfl) fn119 (OpVs.cons (OpV.s rfl) (OpVs.cons OpV.c (OpVs.cons OpV.c (OpVs.nil)))) (by exact fun hg w F hF hM => i_within_walk w a0_2 1 9  _ (hy4 (gnot hg.2))) ?_
    refine D_not (GC.some rfl rfl) (OpV.s rfl) ?_
    refine D_or (cy := _) GC.none (OpV.t rfl) (OpV.s rfl) (fun h hb => ⟨h, hb⟩) ?_
    refine D_move GC.none (OpV.t rfl) ?_
    refine D_fieldAddr (GC.some rfl rfl) (OpV.t rfl) fld129_2 ?_
    refine D_load (GC.some rfl rfl) (OpV.s rfl) (fun hg => RdC.blk (by first | (with_reducible repeat (first | exact List.Mem.head _ | apply List.Mem.tail)); done | (repeat (first | exact List.Mem.head _ | apply List.Mem.tail)))) one3 rfl ?_
    refine D_callX (GC.some rfl rfl) fn119 (OpVs.cons (OpV.s rfl) (OpVs.cons OpV.c (OpVs.cons OpV.c (OpVs.nil)))) (by exact fun hg w F hF hM => i_within_walk w a0_3 1 1000  _ (hy5 (gnot hg.2))) ?_
    refine D_not (GC.some rfl rfl) (OpV.s rfl) ?_
    refine D_or (cy := _) GC.none (OpV.t rfl) (OpV.s rfl) (fun h hb => ⟨h, hb⟩) ?_
    refine DV_nil ?_
    refine Give_is rfl rfl ?_
    refine Give_drop rfl ?_
    refine Give_drop rfl ?_
    refine Give_drop rfl ?_
    refine Give_drop rfl ?_
    refine Give_drop rfl ?_
    refine Give_drop rfl ?_
    refine Give_drop rfl ?_
    refine Give_drop rfl ?_
    refine Give_drop rfl ?_
    refine Give_drop rfl ?_
    refine Give_drop rfl ?_
    refine Give_drop rfl ?_
    refine Give_drop rfl ?_
    refine Give_drop rfl ?_
    refine Give_drop rfl ?_
    refine Give_nil ?_
    refine W_weaken (l' := [(1, _), (24, _)]) (Sub.cons rfl (Sub.cons rfl (Sub.nil _))) (MSub.refl _) ?_
    refine W_cond rfl (fun hc6 => ?_) (fun hc6 => ?_)
    · skip
      replace hp := cond_t hc6 hp
      refine W_seq ?_
      refine W_region ?_
      refine L_assign rfl rfl ?_
      refine L_nil ?_
      obtain rfl := Option.some.inj hp
      refine W_ret ?_
      refine res1 rfl (ResOK.tmp rfl) ⟨rfl, rfl⟩ (MSub.nil _)
    · skip
      replace hp := cond_f hc6 hp
      refine W_skip ?_
      refine W_seq ?_
      refine W_seq ?_
      have ho := hp; clear hp; obtain ⟨y7, hy7, hp⟩ := bind_any ho; clear ho
      have ho := hp; clear hp; obtain ⟨y8, hy8, hp⟩ := gb_any ho; clear ho
      have ho := hp; clear hp; obtain ⟨y9, hy9, hp⟩ := gb_any ho; clear ho
      refine W_D0 [54] mix (by kernel_rfl) rfl ?_
      refine D_fieldAddr GC.none (OpV.t rfl) fld129_3 ?_
      refine D_load GC.none (OpV.t rfl) (fun hg => RdC.blk (by first | (with_reducible repeat (first | exact List.Mem.head _ | apply List.Mem.tail)); done | (repeat (first | exact List.Mem.head _ | apply List.Mem.tail)))) one9 rfl ?_
      refine D_fieldAddr GC.none (OpV.t rfl) fld129_0 ?_
      refine D_load GC.none (OpV.t rfl) (fun hg => RdC.blk (by first | (with_reducible repeat (first | exact List.Mem.head _ | apply List.Mem.tail)); done | (repeat (first | exact List.Mem.head _ | apply List.Mem.tail)))) one3 rfl ?_
      refine D_bin GC.none (OpV.t rfl) OpV.c (fun hg => bv_neq) ?_
      refine D_callX GC.none fn243 (OpVs.cons (OpV.t rfl) (OpVs.cons (OpV.t rfl) (OpVs.nil))) (by exact fun hg w F hF hM => i_wordIf_walk w a0_4 (!decide (a0_1 = 7))  _ hy7) ?_
      refine D_not GC.none (OpV.t rfl) ?_
      refine D_move GC.none (OpV.t rfl) ?_
      refine D_fieldAddr (GC.some rfl rfl) (OpV.t rfl) fld129_4 ?_
      refine D_load (GC.some rfl rfl) (OpV.s rfl) (fun hg => RdC.blk (by first | (with_reducible repeat (first | exact List.Mem.head _ | apply List.Mem.tail)); done | (repeat (first | exact List.Mem.head _ | apply List.Mem.tail)))) one9 rfl ?_
      refine D_fieldAddr (GC.some rfl rfl) (OpV.t rfl) fld129_0 ?_
      refine D_load (GC.some rfl rfl) (OpV.s rfl) (fun hg => RdC.blk (by first | (with_reducible repeat (first | exact List.Mem.head _ | apply List.Mem.tail)); done | (repeat (first | exact List.Mem.head _ | apply List.Mem.tail)))) one3 rfl ?_
      refine D_bin (GC.some rfl rfl) (OpV.s rfl) OpV.c (fun hg => bv_eql) ?_
      refine D_move (GC.some rfl rfl) (OpV.s rfl) ?_
      refine D_fieldAddr (GC.some rfl rfl) (OpV.t rfl) fld129_0 ?_
      refine D_load (GC.some rfl rfl) (OpV.s rfl) (fun hg => RdC.blk (by first | (with_reducible repeat (first | exact List.Mem.head _ | apply List.Mem.tail)); done | (repeat (first | exact List.Mem.head _ | apply List.Mem.tail)))) one3 rfl ?_
      refine D_bin (GC.some rfl rfl) (OpV.s rfl) OpV.c (fun hg => bv_eql) ?_
      refine D_or (cy := _) (GC.some rfl rfl) (OpV.s rfl) (OpV.s rfl) (fun h hb => ⟨h, hb⟩) ?_
      refine D_callX (GC.some rfl rfl) fn243 (OpVs.cons (OpV.s rfl) (OpVs.cons (OpV.s rfl) (OpVs.nil))) (by exact fun hg w F hF hM => i_wordIf_walk w a0_5 ((decide (a0_1 = 3)) || (decide (a0_1 = 4)))  _ (hy8 (gnot hg.2))) ?_
      refine D_not (GC.some rfl rfl) (OpV.s rfl) ?_
      refine D_or (cy := _) GC.none (OpV.t rfl) (OpV.s rfl) (fun h hb => ⟨h, hb⟩) ?_
      refine D_move GC.none (OpV.t rfl) ?_
      refine D_fieldAddr (GC.some rfl rfl) (OpV.t rfl) fld129_5 ?_
      refine D_load (GC.some rfl rfl) (OpV.s rfl) (fun hg => RdC.blk (by first | (with_reducible repeat (first | exact List.Mem.head _ | apply List.Mem.tail)); done | (repeat (first | exact List.Mem.head _ | apply List.Mem.tail)))) one9 rfl ?_
      refine D_fieldAddr (GC.some rfl rfl) (OpV.t rfl) fld129_0 ?_
      refine D_load (GC.some rfl rfl) (OpV.s rfl) (fun hg => RdC.blk (by first | (with_reducible repeat (first | exact List.Mem.head _ | apply List.Mem.tail)); done | (repeat (first | exact List.Mem.head _ | apply List.Mem.tail)))) one3 rfl ?_
      refine D_bin (GC.some rfl rfl) (OpV.s rfl) OpV.c (fun hg => bv_eql) ?_
      refine D_callX (GC.some rfl rfl) fn243 (OpVs.cons (OpV.s rfl) (OpVs.cons (OpV.s rfl) (OpVs.nil))) (by exact fun hg w F hF hM => i_wordIf_walk w a0_6 (decide (a0_1 = 4))  _ (hy9 (gnot hg.2))) ?_
      refine D_not (GC.some rfl rfl) (OpV.s rfl) ?_
      refine D_or (cy := _) GC.none (OpV.t rfl) (OpV.s rfl) (fun h hb => ⟨h, hb⟩) ?_
      refine DV_nil ?_
      refine Give_is rfl rfl ?_
      refine Give_drop rfl ?_
      refine Give_drop rfl ?_
      refine Give_drop rfl ?_
      refine Give_drop rfl ?_
      refine Give_drop rfl ?_
      refine Give_drop rfl ?_
      refine Give_drop rfl ?_
      refine Give_drop rfl ?_
      refine Give_drop rfl ?_
      refine Give_drop rfl ?_
      refine Give_drop rfl ?_
      refine Give_drop rfl ?_
      refine Give_drop rfl ?_
      refine Give_drop rfl ?_
      refine Give_drop rfl ?_
      refine Give_drop rfl ?_
      refine Give_drop rfl ?_
      refine Give_drop rfl ?_
      refine Give_drop rfl ?_
      refine Give_drop rfl ?_
      refine Give_drop rfl ?_
      refine Give_drop rfl ?_
      refine Give_drop rfl ?_
      refine Give_drop rfl ?_
      refine Give_drop rfl ?_
      refine Give_drop rfl ?_
      refine Give_drop rfl ?_
      refine Give_drop rfl ?_
      refine Give_drop rfl ?_
      refine Give_nil ?_
      refine W_weaken (l' := [(1, _), (54, _)]) (Sub.cons rfl (Sub.cons rfl (Sub.nil _))) (MSub.refl _) ?_
      refine W_cond rfl (fun hc10 => ?_) (fun hc10 => ?_)
      · skip
        replace hp := cond_t hc10 hp
        refine W_seq ?_
        refine W_region ?_
        refine L_assign rfl rfl ?_
        refine L_nil ?_
        obtain rfl := Option.some.inj hp
        refine W_ret ?_
        refine res1 rfl (ResOK.tmp rfl) ⟨rfl, rfl⟩ (MSub.nil _)
      · skip
        replace hp := cond_f hc10 hp
        refine W_skip ?_
        refine W_seq ?_
        refine W_seq ?_
        have ho := hp; clear hp; obtain ⟨y11, hy11, hp⟩ := gb_any ho; clear ho
        refine W_D0 [68] mix (by kernel_rfl) rfl ?_
        refine D_fieldAddr GC.none (OpV.t rfl) fld129_6 ?_
        refine D_load GC.none (OpV.t rfl) (fun hg => RdC.blk (by first | (with_reducible repeat (first | exact List.Mem.head _ | apply List.Mem.tail)); done | (repeat (first | exact List.Mem.head _ | apply List.Mem.tail)))) one3 rfl ?_
        refine D_bin GC.none (OpV.t rfl) OpV.c (fun hg => bv_neq) ?_
        refine D_move GC.none (OpV.t rfl) ?_
        refine D_fieldAddr (GC.some rfl rfl) (OpV.t rfl) fld129_0 ?_
        refine D_load (GC.some rfl rfl) (OpV.s rfl) (fun hg => RdC.blk (by first | (with_reducible repeat (first | exact List.Mem.head _ | apply List.Mem.tail)); done | (repeat (first | exact List.Mem.head _ | apply List.Mem.tail)))) one3 rfl ?_
        refine D_bin (GC.some rfl rfl) (OpV.s rfl) OpV.c (fun hg => bv_neq) ?_
        refine D_move (GC.some rfl rfl) (OpV.s rfl) ?_
        refine D_fieldAddr (GC.some rfl rfl) (OpV.t rfl) fld129_6 ?_
        refine D_load (GC.some rfl rfl) (OpV.s rfl) (fun hg => RdC.blk (by first | (with_reducible repeat (first | exact List.Mem.head _ | apply List.Mem.tail)); done | (repeat (first | exact List.Mem.head _ | apply List.Mem.tail)))) one3 rfl ?_
        refine D_callX (GC.some rfl rfl) fn119 (OpVs.cons (OpV.s rfl) (OpVs.cons OpV.c (OpVs.cons OpV.c (OpVs.nil)))) (by exact fun hg w F hF hM => i_within_walk w a0_7 0 9  _ (hy11 (gand hg.1.2 (gnot hg.2)))) ?_
        refine D_not (GC.some rfl rfl) (OpV.s rfl) ?_
        refine D_or (cy := _) (GC.some rfl rfl) (OpV.s rfl) (OpV.s rfl) (fun h hb => ⟨h, hb⟩) ?_
        refine D_and (cy := _) GC.none (OpV.t rfl) (OpV.s rfl) (fun h hb => ⟨h, hb⟩) ?_
        refine DV_nil ?_
        refine Give_is rfl rfl ?_
        refine Give_drop rfl ?_
        refine Give_drop rfl ?_
        refine Give_drop rfl ?_
        refine Give_drop rfl ?_
        refine Give_drop rfl ?_
        refine Give_drop rfl ?_
        refine Give_drop rfl ?_
        refine Give_drop rfl ?_
        refine Give_drop rfl ?_
        refine Give_drop rfl ?_
        refine Give_drop rfl ?_
        refine Give_drop rfl ?_
        refine Give_drop rfl ?_
        refine Give_nil ?_
        refine W_weaken (l' := [(1, _), (68, _)]) (Sub.cons rfl (Sub.cons rfl (Sub.nil _))) (MSub.refl _) ?_
        refine W_cond rfl (fun hc12 => ?_) (fun hc12 => ?_)
        · skip
          replace hp := cond_t hc12 hp
          refine W_seq ?_
          refine W_region ?_
          refine L_assign rfl rfl ?_
          refine L_nil ?_
          obtain rfl := Option.some.inj hp
          refine W_ret ?_
          refine res1 rfl (ResOK.tmp rfl) ⟨rfl, rfl⟩ (MSub.nil _)
        · skip
          replace hp := cond_f hc12 hp
          refine W_skip ?_
          refine W_seq ?_
          refine W_seq ?_
          refine W_region ?_
          refine L_fieldAddr rfl rfl fld129_0 ?_
          refine L_load rfl rfl (RdC.blk (by first | (with_reducible repeat (first | exact List.Mem.head _ | apply List.Mem.tail)); done | (repeat (first | exact List.Mem.head _ | apply List.Mem.tail)))) one3 rfl ?_
          refine L_binV rfl rfl rfl bv_eql ?_
          refine L_nil ?_
          refine W_weaken (l' := [(1, _), (71, _)]) (Sub.cons rfl (Sub.cons rfl (Sub.nil _))) (MSub.refl _) ?_
          refine W_cond rfl (fun hc13 => ?_) (fun hc13 => ?_)
          · skip
            replace hp := cond_t hc13 hp
            refine W_seq ?_
            have ho := hp; clear hp; obtain ⟨y14, hy14, hp⟩ := bind_any ho; clear ho
            have ho := hp; clear hp; obtain ⟨y15, hy15, hp⟩ := gb_any ho; clear ho
            refine W_D0 [2] mix (by kernel_rfl) rfl ?_
            refine D_fieldAddr GC.none (OpV.t rfl) fld129_7 ?_
            refine D_load GC.none (OpV.t rfl) (fun hg => RdC.blk (by first | (with_reducible repeat (first | exact List.Mem.head _ | apply List.Mem.tail)); done | (repeat (first | exact List.Mem.head _ | apply List.Mem.tail)))) one48 rfl ?_
            refine D_lenP (X := a0_8) GC.none (OpV.t rfl) el48 ?_
            refine D_callX GC.none fn119 (OpVs.cons (OpV.t rfl) (OpVs.cons OpV.c (OpVs.cons OpV.c (OpVs.nil)))) (by exact fun hg w F hF hM => i_within_walk w ((GT.dat a0_8).length : Int) 1 4  _ hy14) ?_
            refine D_move GC.none (OpV.t rfl) ?_
            refine D_fieldAddr (GC.some rfl rfl) (OpV.t rfl) fld129_7 ?_
            refine D_load (GC.some rfl rfl) (OpV.s rfl) (fun hg => RdC.blk (by first | (with_reducible repeat (first | exact List.Mem.head _ | apply List.Mem.tail)); done | (repeat (first | exact List.Mem.head _ | apply List.Mem.tail)))) one48 rfl ?_
            refine D_callX (GC.some rfl rfl) fn244 (OpVs.cons (OpV.s rfl) (OpVs.nil)) (by exact fun hg w F hF hM => i_areChunks_walk w a0_8 (RdT.nowS (RdT.old h0.2.2.2.2.2.2.2) hF hM) _ (hy15 hg.2)) ?_
            refine D_and (cy := _) GC.none (OpV.t rfl) (OpV.s rfl) (fun h hb => ⟨h, hb⟩) ?_
            refine D_assign GC.none (OpV.t rfl) ?_
            refine DV_nil ?_
            refine Give_is rfl rfl ?_
            refine Give_drop rfl ?_
            refine Give_drop rfl ?_
            refine Give_drop rfl ?_
            refine Give_drop rfl ?_
            refine Give_drop rfl ?_
            refine Give_drop rfl ?_
            refine Give_drop rfl ?_
            refine Give_drop rfl ?_
            refine Give_drop rfl ?_
            refine Give_nil ?_
            obtain rfl := Option.some.inj hp
            refine W_ret ?_
            refine res1 rfl (ResOK.tmp rfl) ⟨rfl, rfl⟩ (MSub.nil _)
          · skip
            replace hp := cond_f hc13 hp
            refine W_skip ?_
            refine W_seq ?_
            refine W_region ?_
            refine L_fieldAddr rfl rfl fld129_7 ?_
            refine L_load rfl rfl (RdC.blk (by first | (with_reducible repeat (first | exact List.Mem.head _ | apply List.Mem.tail)); done | (repeat (first | exact List.Mem.head _ | apply List.Mem.tail)))) one48 rfl ?_
            refine L_lenP (X := a0_8) rfl rfl el48 ?_
            refine L_binV rfl rfl rfl bv_eql ?_
            refine L_assign rfl rfl ?_
            refine L_nil ?_
            obtain rfl := Option.some.inj hp
            refine W_ret ?_
            refine res1 rfl (ResOK.tmp rfl) ⟨rfl, rfl⟩ (MSub.nil _)

end Go.Proofs.SL
