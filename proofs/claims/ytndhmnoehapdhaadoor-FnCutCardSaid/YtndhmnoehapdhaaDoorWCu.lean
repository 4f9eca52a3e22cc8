/- Walks of functions, each with the function on data that it follows. -/
import Derived.Test.YtndhmnoehapdhaaDoorWSa
import Derived.Test.YtndhmnoehapdhaaDoorWSb
import Derived.Test.YtndhmnoehapdhaaDoorB3
namespace Go.Proofs.SL
open Go
abbrev T_l1Cur := (TL UInt8) × Int × Int
abbrev D_l1Cur := (List UInt8) × Int × Int
theorem el73 : elOf Tryd.prog 73 = some (9, 1, 16, [.string ByteArray.empty]) := by kernel_rfl
theorem one9 : oneOf Tryd.prog 9 = true := by kernel_rfl
theorem bld141 : bldOf Tryd.prog 141 = some ([(0, 1), (1, 1), (2, 1)], [.slice none 0 0, .int .i64 0, .int .i64 0]) := by kernel_rfl
theorem fld141_2 : fldOf Tryd.prog 141 2 = some 2 := by kernel_rfl
theorem fld141_1 : fldOf Tryd.prog 141 1 = some 1 := by kernel_rfl
theorem fld141_0 : fldOf Tryd.prog 141 0 = some 0 := by kernel_rfl
theorem one59 : oneOf Tryd.prog 59 = true := by kernel_rfl
theorem fn119 : IsFn Tryd.prog 119 := ⟨_, Tryd.func119, by kernel_rfl, rfl⟩
theorem fn84 : IsFn Tryd.prog 84 := ⟨_, Tryd.func84, by kernel_rfl, rfl⟩
theorem fn94 : IsFn Tryd.prog 94 := ⟨_, Tryd.func94, by kernel_rfl, rfl⟩
theorem fn81 : IsFn Tryd.prog 81 := ⟨_, Tryd.func81, by kernel_rfl, rfl⟩
theorem fn83 : IsFn Tryd.prog 83 := ⟨_, Tryd.func83, by kernel_rfl, rfl⟩
theorem fn95 : IsFn Tryd.prog 95 := ⟨_, Tryd.func95, by kernel_rfl, rfl⟩
theorem fn47 : IsFn Tryd.prog 47 := ⟨_, Tryd.func47, by kernel_rfl, rfl⟩
theorem fn68 : IsFn Tryd.prog 68 := ⟨_, Tryd.func68, by kernel_rfl, rfl⟩
theorem fn49 : IsFn Tryd.prog 49 := ⟨_, Tryd.func49, by kernel_rfl, rfl⟩
theorem fn42 : IsFn Tryd.prog 42 := ⟨_, Tryd.func42, by kernel_rfl, rfl⟩
theorem fn124 : IsFn Tryd.prog 124 := ⟨_, Tryd.func124, by kernel_rfl, rfl⟩
theorem fn53 : IsFn Tryd.prog 53 := ⟨_, Tryd.func53, by kernel_rfl, rfl⟩
theorem fn96 : IsFn Tryd.prog 96 := ⟨_, Tryd.func96, by kernel_rfl, rfl⟩
theorem fn54 : IsFn Tryd.prog 54 := ⟨_, Tryd.func54, by kernel_rfl, rfl⟩
theorem fn97 : IsFn Tryd.prog 97 := ⟨_, Tryd.func97, by kernel_rfl, rfl⟩
theorem fn38 : IsFn Tryd.prog 38 := ⟨_, Tryd.func38, by kernel_rfl, rfl⟩
theorem fn46 : IsFn Tryd.prog 46 := ⟨_, Tryd.func46, by kernel_rfl, rfl⟩
theorem fn48 : IsFn Tryd.prog 48 := ⟨_, Tryd.func48, by kernel_rfl, rfl⟩
theorem fn50 : IsFn Tryd.prog 50 := ⟨_, Tryd.func50, by kernel_rfl, rfl⟩
theorem fn51 : IsFn Tryd.prog 51 := ⟨_, Tryd.func51, by kernel_rfl, rfl⟩
theorem fn52 : IsFn Tryd.prog 52 := ⟨_, Tryd.func52, by kernel_rfl, rfl⟩
theorem fn55 : IsFn Tryd.prog 55 := ⟨_, Tryd.func55, by kernel_rfl, rfl⟩
theorem fn56 : IsFn Tryd.prog 56 := ⟨_, Tryd.func56, by kernel_rfl, rfl⟩
noncomputable def w_big (a0 : List UInt8) : Option Bool :=
  some (decide (1048576 < (a0.length : Int)))

theorem w_big_walk (w : World) (a0 : TL UInt8) (h0 : GT.rd w [] a0) (r : Bool) (hp : w_big (GT.dat a0) = some r) : Spec Tryd.prog 38 [(TL.hdr a0)].toArray w [] (IsV (.bool r)) := by
  refine Spec.intro Tryd.func38 rfl Tryd.ntmps38 rfl ?_
  unfold w_big at hp
  try dsimp only [dat_pair, dat_int, dat_bool, dat_str, dat_ar] at hp
  refine W_seq ?_
  refine W_region ?_
  refine L_assign rfl rfl ?_
  refine L_nil ?_
  refine W_seq ?_
  refine W_region ?_
  refine L_move rfl rfl ?_
  refine L_lenP (X := a0) rfl rfl el59 ?_
  refine L_binV rfl rfl rfl bv_gtr ?_
  refine L_assign rfl rfl ?_
  refine L_nil ?_
  obtain rfl := Option.some.inj hp
  refine W_ret ?_
  refine res1 rfl (ResOK.tmp rfl) ⟨rfl, rfl⟩ (MSub.nil _)

noncomputable def w_at (a0 : List UInt8) (a1 : Int) : Option Int :=
  cond (decide (a1 < (a0.length : Int))) (Option.bind (idx a0 a1) (fun y2 => some (IntKind.wrap .i64 (y2.toNat : Int)))) (some ((IntKind.wrap .i64 (IntKind.wrap .i64 (a1 * 37) + IntKind.wrap .i64 ((a0.length : Int) * 11))).tmod 256))

theorem w_at_walk (w : World) (a0 : TL UInt8) (a1 : Int) (h0 : GT.rd w [] a0) (r : Int) (hp : w_at (GT.dat a0) a1 = some r) : Spec Tryd.prog 50 [(TL.hdr a0), .int .i64 a1].toArray w [] (IsV (.int .i64 r)) := by
  refine Spec.intro Tryd.func50 rfl Tryd.ntmps50 rfl ?_
  unfold w_at at hp
  try dsimp only [dat_pair, dat_int, dat_bool, dat_str, dat_ar] at hp
  refine W_seq ?_
  refine W_region ?_
  refine L_assign rfl rfl ?_
  refine L_nil ?_
  refine W_seq ?_
  refine W_seq ?_
  refine W_region ?_
  refine L_move rfl rfl ?_
  refine L_move rfl rfl ?_
  refine L_lenP (X := a0) rfl rfl el59 ?_
  refine L_binV rfl rfl rfl bv_lss ?_
  refine L_nil ?_
  refine W_weaken (l' := [(0, _), (1, _), (8, _)]) (Sub.cons rfl (Sub.cons rfl (Sub.cons rfl (Sub.nil _)))) (MSub.refl _) ?_
  refine W_cond rfl (fun hc1 => ?_) (fun hc1 => ?_)
  · skip
    replace hp := cond_t hc1 hp
    refine W_seq ?_
    refine W_region ?_
    refine L_move rfl rfl ?_
    refine L_move rfl rfl ?_
    have ho := hp; clear hp; obtain ⟨u2, hy2, hp⟩ := idx_bind ho; clear ho
    refine L_idxA (X := a0) rfl rfl rfl el59 (RdT.old h0) hy2 ?_
    refine L_load0 rfl rfl (RdT.at (RdT.old h0) (hy2).2) one5 rfl ?_
    refine L_convInt rfl rfl und3 (by rw [und5]; rfl) ?_
    refine L_assign rfl rfl ?_
    refine L_nil ?_
    obtain rfl := Option.some.inj hp
    refine W_ret ?_
    refine res1 rfl (ResOK.tmp rfl) ⟨rfl, rfl⟩ (MSub.nil _)
  · skip
    replace hp := cond_f hc1 hp
    refine W_skip ?_
    refine W_seq ?_
    refine W_region ?_
    refine L_move rfl rfl ?_
    refine L_binV rfl rfl rfl bv_mul ?_
    refine L_move rfl rfl ?_
    refine L_lenP (X := a0) rfl rfl el59 ?_
    refine L_binV rfl rfl rfl bv_mul ?_
    refine L_binV rfl rfl rfl bv_add ?_
    refine L_binV rfl rfl rfl (bv_rem (by decide)) ?_
    refine L_assign rfl rfl ?_
    refine L_nil ?_
    obtain rfl := Option.some.inj hp
    refine W_ret ?_
    refine res1 rfl (ResOK.tmp rfl) ⟨rfl, rfl⟩ (MSub.nil _)

noncomputable def w_sameTexts (a0 : List ByteArray) (a1 : List ByteArray) : Option Bool :=
  cond (!decide ((a0.length : Int) = (a1.length : Int))) (some false) (whileP (fun s2 : Int => cond (decide (s2 < (a0.length : Int))) (Option.bind (idx a0 s2) (fun y4 => Option.bind (idx a1 s2) (fun y5 => cond (!decide (y4 = y5)) (Option.map .inr (some false)) (some (.inl (IntKind.wrap .i64 (s2 + 1))))))) (Option.map .inr (some true))) 0)

theorem w_sameTexts_walk (w : World) (a0 : TL ByteArray) (a1 : TL ByteArray) (h0 : GT.rd w [] a0) (h1 : GT.rd w [] a1) (r : Bool) (hp : w_sameTexts (GT.dat a0) (GT.dat a1) = some r) : Spec Tryd.prog 48 [(TL.hdr a0), (TL.hdr a1)].toArray w [] (IsV (.bool r)) := by
  refine Spec.intro Tryd.func48 rfl Tryd.ntmps48 rfl ?_
  unfold w_sameTexts at hp
  try dsimp only [dat_pair, dat_int, dat_bool, dat_str, dat_ar] at hp
  refine W_seq ?_
  refine W_region ?_
  refine L_assign rfl rfl ?_
  refine L_nil ?_
  refine W_seq ?_
  refine W_seq ?_
  refine W_region ?_
  refine L_move rfl rfl ?_
  refine L_lenP (X := a0) rfl rfl el73 ?_
  refine L_move rfl rfl ?_
  refine L_lenP (X := a1) rfl rfl el73 ?_
  refine L_binV rfl rfl rfl bv_neq ?_
  refine L_nil ?_
  refine W_weaken (l' := [(0, _), (1, _), (10, _)]) (Sub.cons rfl (Sub.cons rfl (Sub.cons rfl (Sub.nil _)))) (MSub.refl _) ?_
  refine W_cond rfl (fun hc1 => ?_) (fun hc1 => ?_)
  · skip
    replace hp := cond_t hc1 hp
    refine W_seq ?_
    refine W_region ?_
    refine L_assign rfl rfl ?_
    refine L_nil ?_
    obtain rfl := Option.some.inj hp
    refine W_ret ?_
    refine res1 rfl (ResOK.tmp rfl) ⟨rfl, rfl⟩ (MSub.nil _)
  · skip
    replace hp := cond_f hc1 hp
    refine W_skip ?_
    refine W_seq ?_
    refine W_seq ?_
    refine W_region ?_
    refine L_assign rfl rfl ?_
    refine L_nil ?_
    refine W_block ?_
    refine W_while (σ := Int) GT.dat (fun (v2_0 : Int) => [(5, .int .i64 v2_0)]) (fun (v2_0 : Int) => []) [(0, _), (1, _)] [] 0 hp (Sub.cons rfl (Sub.cons rfl (Sub.cons rfl (Sub.nil _)))) (MSub.nil _) ?_
    clear hp
    rintro v2_0 x2 hp hx2
    try dsimp only [dat_pair, dat_int, dat_bool, dat_str, dat_ar] at hp
    refine W_weaken (l' := [(0, _), (1, _), (5, _)]) (Sub.cons rfl (Sub.cons rfl (Sub.cons rfl (Sub.nil _)))) (M' := []) (MSub.nil _) ?_
    refine W_seq ?_
    refine W_seq ?_
    refine W_region ?_
    refine L_move rfl rfl ?_
    refine L_move rfl rfl ?_
    refine L_lenP (X := a0) rfl rfl el73 ?_
    refine L_binV rfl rfl rfl bv_lss ?_
    refine L_nil ?_
    refine W_weaken (l' := [(0, _), (1, _), (5, _), (14, _)]) (Sub.cons rfl (Sub.cons rfl (Sub.cons rfl (Sub.cons rfl (Sub.nil _))))) (MSub.refl _) ?_
    refine W_cond rfl (fun hc3 => ?_) (fun hc3 => ?_)
    · skip
      replace hp := cond_t hc3 hp
      refine W_skip ?_
      refine W_seq ?_
      refine W_block ?_
      refine W_seq ?_
      have ho := hp; clear hp; obtain ⟨u4, hy4, hp⟩ := idx_bind ho; clear ho
      have ho := hp; clear hp; obtain ⟨u5, hy5, hp⟩ := idx_bind ho; clear ho
      refine W_D0 [25] mix (by kernel_rfl) rfl ?_
      refine D_move GC.none (OpV.t rfl) ?_
      refine D_move GC.none (OpV.t rfl) ?_
      refine D_idxA (X := a0) GC.none (OpV.t rfl) (OpV.t rfl) el73 (RdT.old h0) (fun _ => hy4) ?_
      refine D_load0 GC.none (OpV.t rfl) (fun hg => RdT.at (RdT.old h0) (hy4).2) one9 rfl ?_
      refine D_move GC.none (OpV.t rfl) ?_
      refine D_move GC.none (OpV.t rfl) ?_
      refine D_idxA (X := a1) GC.none (OpV.t rfl) (OpV.t rfl) el73 (RdT.old h1) (fun _ => hy5) ?_
      refine D_load0 GC.none (OpV.t rfl) (fun hg => RdT.at (RdT.old h1) (hy5).2) one9 rfl ?_
      refine D_bin GC.none (OpV.t rfl) (OpV.t rfl) (fun hg => bv_sneq) ?_
      refine DV_nil ?_
      refine Give_is rfl rfl ?_
      refine Give_drop rfl ?_
      refine Give_drop rfl ?_
      refine Give_drop rfl ?_
      refine Give_drop rfl ?_
      refine Give_drop rfl ?_
      refine Give_drop rfl ?_
      refine Give_drop rfl ?_
      refine Give_drop rfl ?_
      refine Give_nil ?_
      refine W_weaken (l' := [(0, _), (1, _), (5, _), (25, _)]) (Sub.cons rfl (Sub.cons rfl (Sub.cons rfl (Sub.cons rfl (Sub.nil _))))) (MSub.refl _) ?_
      refine W_cond rfl (fun hc6 => ?_) (fun hc6 => ?_)
      · skip
        replace hp := cond_t hc6 hp
        refine W_seq ?_
        refine W_region ?_
        refine L_assign rfl rfl ?_
        refine L_nil ?_
        have ho := hp; clear hp; obtain ⟨a7, hp, hx_a7⟩ := map_any ho; clear ho
        obtain rfl := hx2 _ hx_a7
        obtain rfl := Option.some.inj hp
        refine W_ret ?_
        refine res1 rfl (ResOK.tmp rfl) ⟨rfl, rfl⟩ (MSub.nil _)
      · skip
        replace hp := cond_f hc6 hp
        refine W_skip ?_
        refine W_region ?_
        refine L_move rfl rfl ?_
        refine L_binV rfl rfl rfl bv_add ?_
        refine L_assign rfl rfl ?_
        refine L_nil ?_
        exact ⟨IntKind.wrap .i64 (v2_0 + 1), (Sub.cons rfl (Sub.cons rfl (Sub.cons rfl (Sub.nil _)))), (Arr.sub (MSub.nil _)), some_eq hp⟩
    · skip
      replace hp := cond_f hc3 hp
      refine W_exit ?_
      have ho := hp; clear hp; obtain ⟨a8, hp, hx_a8⟩ := map_any ho; clear ho
      obtain rfl := hx2 _ hx_a8
      refine W_seq ?_
      refine W_region ?_
      refine L_assign rfl rfl ?_
      refine L_nil ?_
      obtain rfl := Option.some.inj hp
      refine W_ret ?_
      refine res1 rfl (ResOK.tmp rfl) ⟨rfl, rfl⟩ (MSub.nil _)

noncomputable def s_l1New (a0 : List UInt8) : Option D_l1Cur :=
  whileP (fun s1 : Int × Int => cond ((decide (s1.2 < (a0.length : Int))) && (decide (s1.2 < 4000))) (Option.bind (idx a0 s1.2) (fun y3 => some (.inl ((bits .and .i64 (IntKind.wrap .i64 (IntKind.wrap .i64 (IntKind.wrap .i64 (s1.1 * 131) + IntKind.wrap .i64 (y3.toNat : Int)) + 7)) 1073741823, IntKind.wrap .i64 (s1.2 + 1)))))) (Option.map .inr (some (a0, 0, s1.1)))) (IntKind.wrap .i64 (10101 + (a0.length : Int)), 0)

theorem s_l1New_walk (w : World) (a0 : TL UInt8) (h0 : GT.rd w [] a0) (r : D_l1Cur) (hp : s_l1New (GT.dat a0) = some r) : Spec Tryd.prog 81 [(TL.hdr a0)].toArray w [] (fun v M => ∃ (b : Nat) (x0 : T_l1Cur), v = .pointer (some ⟨b, 0, none⟩) ∧ GT.dat x0 = r ∧ M = [blk b (GT.cells x0) 141] ∧ x0.1 = a0) := by
  refine Spec.intro Tryd.func81 rfl Tryd.ntmps81 rfl ?_
  unfold s_l1New at hp
  try dsimp only [dat_pair, dat_int, dat_bool, dat_str, dat_ar] at hp
  refine W_seq ?_
  refine W_region ?_
  refine L_assign rfl rfl ?_
  refine L_nil ?_
  refine W_seq ?_
  refine W_region ?_
  refine L_move rfl rfl ?_
  refine L_lenP (X := a0) rfl rfl el59 ?_
  refine L_binV rfl rfl rfl bv_add ?_
  refine L_assign rfl rfl ?_
  refine L_nil ?_
  refine W_seq ?_
  refine W_seq ?_
  refine W_region ?_
  refine L_assign rfl rfl ?_
  refine L_nil ?_
  refine W_block ?_
  refine W_while (σ := Int × Int) GT.dat (fun ((v1_0, v1_1) : Int × Int) => [(3, .int .i64 v1_0), (4, .int .i64 v1_1)]) (fun ((v1_0, v1_1) : Int × Int) => []) [(0, _)] [] (IntKind.wrap .i64 (10101 + ((GT.dat a0).length : Int)), 0) hp (Sub.cons rfl (Sub.cons rfl (Sub.cons rfl (Sub.nil _)))) (MSub.nil _) ?_
  clear hp
  rintro ⟨v1_0, v1_1⟩ x1 hp hx1
  try dsimp only [dat_pair, dat_int, dat_bool, dat_str, dat_ar] at hp
  refine W_weaken (l' := [(0, _), (3, _), (4, _)]) (Sub.cons rfl (Sub.cons rfl (Sub.cons rfl (Sub.nil _)))) (M' := []) (MSub.nil _) ?_
  refine W_seq ?_
  refine W_seq ?_
  refine W_D0 [15] mix (by kernel_rfl) rfl ?_
  refine D_move GC.none (OpV.t rfl) ?_
  refine D_move GC.none (OpV.t rfl) ?_
  refine D_lenP (X := a0) GC.none (OpV.t rfl) el59 ?_
  refine D_bin GC.none (OpV.t rfl) (OpV.t rfl) (fun hg => bv_lss) ?_
  refine D_move GC.none (OpV.t rfl) ?_
  refine D_move (GC.some rfl rfl) (OpV.t rfl) ?_
  refine D_bin (GC.some rfl rfl) (OpV.s rfl) OpV.c (fun hg => bv_lss) ?_
  refine D_and (cy := _) GC.none (OpV.t rfl) (OpV.s rfl) (fun h hb => ⟨h, hb⟩) ?_
  refine DV_nil ?_
  refine Give_is rfl rfl ?_
  refine Give_drop rfl ?_
  refine Give_drop rfl ?_
  refine Give_drop rfl ?_
  refine Give_drop rfl ?_
  refine Give_drop rfl ?_
  refine Give_drop rfl ?_
  refine Give_drop rfl ?_
  refine Give_nil ?_
  refine W_weaken (l' := [(0, _), (3, _), (4, _), (15, _)]) (Sub.cons rfl (Sub.cons rfl (Sub.cons rfl (Sub.cons rfl (Sub.nil _))))) (MSub.refl _) ?_
  refine W_cond rfl (fun hc2 => ?_) (fun hc2 => ?_)
  · skip
    replace hp := cond_t hc2 hp
    refine W_skip ?_
    refine W_seq ?_
    refine W_block ?_
    refine W_region ?_
    refine L_move rfl rfl ?_
    refine L_binV rfl rfl rfl bv_mul ?_
    refine L_move rfl rfl ?_
    refine L_move rfl rfl ?_
    have ho := hp; clear hp; obtain ⟨u3, hy3, hp⟩ := idx_bind ho; clear ho
    refine L_idxA (X := a0) rfl rfl rfl el59 (RdT.old h0) hy3 ?_
    refine L_load0 rfl rfl (RdT.at (RdT.old h0) (hy3).2) one5 rfl ?_
    refine L_convInt rfl rfl und3 (by rw [und5]; rfl) ?_
    refine L_binV rfl rfl rfl bv_add ?_
    refine L_binV rfl rfl rfl bv_add ?_
    refine L_binV rfl rfl rfl bv_and ?_
    refine L_assign rfl rfl ?_
    refine L_nil ?_
    refine W_region ?_
    refine L_move rfl rfl ?_
    refine L_binV rfl rfl rfl bv_add ?_
    refine L_assign rfl rfl ?_
    refine L_nil ?_
    exact ⟨(bits .and .i64 (IntKind.wrap .i64 (IntKind.wrap .i64 (IntKind.wrap .i64 (v1_0 * 131) + IntKind.wrap .i64 (u3.toNat : Int)) + 7)) 1073741823, IntKind.wrap .i64 (v1_1 + 1)), (Sub.cons rfl (Sub.cons rfl (Sub.cons rfl (Sub.nil _)))), (Arr.sub (MSub.nil _)), some_eq hp⟩
  · skip
    replace hp := cond_f hc2 hp
    refine W_exit ?_
    have ho := hp; clear hp; obtain ⟨a4, hp, hx_a4⟩ := map_any ho; clear ho
    obtain rfl := hx1 _ hx_a4
    refine W_seq ?_
    refine W_region ?_
    refine L_move rfl rfl ?_
    refine L_move rfl rfl ?_
    refine L_build (xs := [(0, .tmp 28), (2, .tmp 29)]) (cs := [(TL.hdr a0), .int .i64 0, .int .i64 v1_0]) rfl rfl bld141 rfl ?_
    refine L_box rfl rfl (fun bk31 => ?_)
    refine L_assign rfl rfl ?_
    refine L_nil ?_
    obtain rfl := Option.some.inj hp
    refine W_ret ?_
    refine res1 rfl (ResOK.tmp rfl) ⟨bk31, (a0, 0, v1_0), rfl, rfl, rfl, rfl⟩ (MSub.cons (by first | (with_reducible repeat (first | exact Pick.here _ | apply Pick.there)); done | (repeat (first | exact Pick.here _ | apply Pick.there))) (MSub.nil _))

noncomputable def s_l1Byte (a0 : D_l1Cur) : Option (Int × D_l1Cur) :=
  cond (decide (a0.2.1 < (a0.1.length : Int))) (Option.bind (idx a0.1 a0.2.1) (fun y2 => some (bits .and .i64 (IntKind.wrap .i64 (bits .and .i64 (bits .xor .i64 (IntKind.wrap .i64 (IntKind.wrap .i64 (a0.2.2 * 6364136223846793005) + 1442695040888963407) / 2 ^ (33 : Int).toNat) (IntKind.wrap .i64 (IntKind.wrap .i64 (a0.2.2 * 6364136223846793005) + 1442695040888963407) / 2 ^ (45 : Int).toNat)) 255 + IntKind.wrap .i64 (y2.toNat : Int))) 255, (a0.1, IntKind.wrap .i64 (a0.2.1 + 1), IntKind.wrap .i64 (IntKind.wrap .i64 (a0.2.2 * 6364136223846793005) + 1442695040888963407))))) (some (bits .and .i64 (bits .xor .i64 (IntKind.wrap .i64 (IntKind.wrap .i64 (a0.2.2 * 6364136223846793005) + 1442695040888963407) / 2 ^ (33 : Int).toNat) (IntKind.wrap .i64 (IntKind.wrap .i64 (a0.2.2 * 6364136223846793005) + 1442695040888963407) / 2 ^ (45 : Int).toNat)) 255, (a0.1, a0.2.1, IntKind.wrap .i64 (IntKind.wrap .i64 (a0.2.2 * 6364136223846793005) + 1442695040888963407))))

theorem s_l1Byte_walk (w : World) (b0_ : Nat) (a0 : T_l1Cur) (h0_0 : GT.rd w (fps [blk b0_ (GT.cells a0) 141]) a0.1) (r : Int × D_l1Cur) (hp : s_l1Byte (GT.dat a0) = some r) : Spec Tryd.prog 119 [Value.pointer (some ⟨b0_, 0, none⟩)].toArray w [blk b0_ (GT.cells a0) 141] (fun v M => ∃ (x0 : Int) (y0 : T_l1Cur), v = .int .i64 x0 ∧ (GT.dat x0, GT.dat y0) = r ∧ M = [blk b0_ (GT.cells y0) 141] ∧ y0.1 = a0.1) := by
  obtain ⟨a0_1, a0_2, a0_3⟩ := a0
  change Spec _ _ ([Value.pointer (some ⟨b0_, 0, none⟩)] : List Value).toArray w _ _
  refine Spec.intro Tryd.func119 rfl Tryd.ntmps119 rfl ?_
  unfold s_l1Byte at hp
  try dsimp only [dat_pair, dat_int, dat_bool, dat_str, dat_ar] at hp
  refine W_seq ?_
  refine W_region ?_
  refine L_assign rfl rfl ?_
  refine L_nil ?_
  refine W_seq ?_
  refine W_region ?_
  refine L_move rfl rfl ?_
  refine L_move rfl rfl ?_
  refine L_nilCheck rfl rfl ?_
  refine L_fieldAddr rfl rfl fld141_2 ?_
  refine L_load rfl rfl (RdC.blk (by first | (with_reducible repeat (first | exact List.Mem.head _ | apply List.Mem.tail)); done | (repeat (first | exact List.Mem.head _ | apply List.Mem.tail)))) one3 rfl ?_
  refine L_binV rfl rfl rfl bv_mul ?_
  refine L_binV rfl rfl rfl bv_add ?_
  refine L_nilCheck rfl rfl ?_
  refine L_fieldAddr rfl rfl fld141_2 ?_
  refine L_store rfl rfl (by first | (with_reducible repeat (first | exact Pick.here _ | apply Pick.there)); done | (repeat (first | exact Pick.here _ | apply Pick.there))) one3 rfl rfl ?_
  refine L_nil ?_
  refine W_seq ?_
  refine W_D0 [3] mix (by kernel_rfl) rfl ?_
  refine D_move GC.none (OpV.t rfl) ?_
  refine D_nilCheck GC.none (OpV.t rfl) ?_
  refine D_fieldAddr GC.none (OpV.t rfl) fld141_2 ?_
  refine D_load GC.none (OpV.t rfl) (fun hg => RdC.blk (by first | (with_reducible repeat (first | exact List.Mem.head _ | apply List.Mem.tail)); done | (repeat (first | exact List.Mem.head _ | apply List.Mem.tail)))) one3 rfl ?_
  refine D_bin GC.none (OpV.t rfl) OpV.c (fun hg => (bv_shr (by decide) (by decide))) ?_
  refine D_move GC.none (OpV.t rfl) ?_
  refine D_nilCheck GC.none (OpV.t rfl) ?_
  refine D_fieldAddr GC.none (OpV.t rfl) fld141_2 ?_
  refine D_load GC.none (OpV.t rfl) (fun hg => RdC.blk (by first | (with_reducible repeat (first | exact List.Mem.head _ | apply List.Mem.tail)); done | (repeat (first | exact List.Mem.head _ | apply List.Mem.tail)))) one3 rfl ?_
  refine D_bin GC.none (OpV.t rfl) OpV.c (fun hg => (bv_shr (by decide) (by decide))) ?_
  refine D_bin GC.none (OpV.t rfl) (OpV.t rfl) (fun hg => bv_xor) ?_
  refine D_bin GC.none (OpV.t rfl) OpV.c (fun hg => bv_and) ?_
  refine D_assign GC.none (OpV.t rfl) ?_
  refine DV_nil ?_
  refine Give_is rfl rfl ?_
  refine Give_drop rfl ?_
  refine Give_drop rfl ?_
  refine Give_drop rfl ?_
  refine Give_drop rfl ?_
  refine Give_drop rfl ?_
  refine Give_drop rfl ?_
  refine Give_drop rfl ?_
  refine Give_drop rfl ?_
  refine Give_drop rfl ?_
  refine Give_drop rfl ?_
  refine Give_drop rfl ?_
  refine Give_drop rfl ?_
  refine Give_nil ?_
  refine W_seq ?_
  refine W_seq ?_
  refine W_D0 [34] mix (by kernel_rfl) rfl ?_
  refine D_move GC.none (OpV.t rfl) ?_
  refine D_nilCheck GC.none (OpV.t rfl) ?_
  refine D_fieldAddr GC.none (OpV.t rfl) fld141_1 ?_
  refine D_load GC.none (OpV.t rfl) (fun hg => RdC.blk (by first | (with_reducible repeat (first | exact List.Mem.head _ | apply List.Mem.tail)); done | (repeat (first | exact List.Mem.head _ | apply List.Mem.tail)))) one3 rfl ?_
  refine D_move GC.none (OpV.t rfl) ?_
  refine D_nilCheck GC.none (OpV.t rfl) ?_
  refine D_fieldAddr GC.none (OpV.t rfl) fld141_0 ?_
  refine D_load GC.none (OpV.t rfl) (fun hg => RdC.blk (by first | (with_reducible repeat (first | exact List.Mem.head _ | apply List.Mem.tail)); done | (repeat (first | exact List.Mem.head _ | apply List.Mem.tail)))) one59 rfl ?_
  refine D_lenP (X := a0_1) GC.none (OpV.t rfl) el59 ?_
  refine D_bin GC.none (OpV.t rfl) (OpV.t rfl) (fun hg => bv_lss) ?_
  refine DV_nil ?_
  refine Give_is rfl rfl ?_
  refine Give_drop rfl ?_
  refine Give_drop rfl ?_
  refine Give_drop rfl ?_
  refine Give_drop rfl ?_
  refine Give_drop rfl ?_
  refine Give_drop rfl ?_
  refine Give_drop rfl ?_
  refine Give_drop rfl ?_
  refine Give_drop rfl ?_
  refine Give_nil ?_
  refine W_weaken (l' := [(0, _), (3, _), (34, _)]) (Sub.cons rfl (Sub.cons rfl (Sub.cons rfl (Sub.nil _)))) (MSub.refl _) ?_
  refine W_cond rfl (fun hc1 => ?_) (fun hc1 => ?_)
  · skip
    replace hp := cond_t hc1 hp
    refine W_seq ?_
    have ho := hp; clear hp; obtain ⟨u2, hy2, hp⟩ := idx_bind ho; clear ho
    refine W_D0 [3] mix (by kernel_rfl) rfl ?_
    refine D_move GC.none (OpV.t rfl) ?_
    refine D_move GC.none (OpV.t rfl) ?_
    refine D_nilCheck GC.none (OpV.t rfl) ?_
    refine D_fieldAddr GC.none (OpV.t rfl) fld141_0 ?_
    refine D_load GC.none (OpV.t rfl) (fun hg => RdC.blk (by first | (with_reducible repeat (first | exact List.Mem.head _ | apply List.Mem.tail)); done | (repeat (first | exact List.Mem.head _ | apply List.Mem.tail)))) one59 rfl ?_
    refine D_move GC.none (OpV.t rfl) ?_
    refine D_nilCheck GC.none (OpV.t rfl) ?_
    refine D_fieldAddr GC.none (OpV.t rfl) fld141_1 ?_
    refine D_load GC.none (OpV.t rfl) (fun hg => RdC.blk (by first | (with_reducible repeat (first | exact List.Mem.head _ | apply List.Mem.tail)); done | (repeat (first | exact List.Mem.head _ | apply List.Mem.tail)))) one3 rfl ?_
    refine D_idxA (X := a0_1) GC.none (OpV.t rfl) (OpV.t rfl) el59 (RdT.old h0_0) (fun _ => hy2) ?_
    refine D_load0 GC.none (OpV.t rfl) (fun hg => RdT.at (RdT.old h0_0) (hy2).2) one5 rfl ?_
    refine D_convInt GC.none (OpV.t rfl) und3 (by rw [und5]; rfl) ?_
    refine D_bin GC.none (OpV.t rfl) (OpV.t rfl) (fun hg => bv_add) ?_
    refine D_bin GC.none (OpV.t rfl) OpV.c (fun hg => bv_and) ?_
    refine D_assign GC.none (OpV.t rfl) ?_
    refine DV_nil ?_
    refine Give_is rfl rfl ?_
    refine Give_drop rfl ?_
    refine Give_drop rfl ?_
    refine Give_drop rfl ?_
    refine Give_drop rfl ?_
    refine Give_drop rfl ?_
    refine Give_drop rfl ?_
    refine Give_drop rfl ?_
    refine Give_drop rfl ?_
    refine Give_drop rfl ?_
    refine Give_drop rfl ?_
    refine Give_drop rfl ?_
    refine Give_drop rfl ?_
    refine Give_drop rfl ?_
    refine Give_drop rfl ?_
    refine Give_nil ?_
    refine W_region ?_
    refine L_move rfl rfl ?_
    refine L_move rfl rfl ?_
    refine L_nilCheck rfl rfl ?_
    refine L_fieldAddr rfl rfl fld141_1 ?_
    refine L_load rfl rfl (RdC.blk (by first | (with_reducible repeat (first | exact List.Mem.head _ | apply List.Mem.tail)); done | (repeat (first | exact List.Mem.head _ | apply List.Mem.tail)))) one3 rfl ?_
    refine L_binV rfl rfl rfl bv_add ?_
    refine L_nilCheck rfl rfl ?_
    refine L_fieldAddr rfl rfl fld141_1 ?_
    refine L_store rfl rfl (by first | (with_reducible repeat (first | exact Pick.here _ | apply Pick.there)); done | (repeat (first | exact Pick.here _ | apply Pick.there))) one3 rfl rfl ?_
    refine L_nil ?_
    refine W_seq ?_
    refine W_region ?_
    refine L_move rfl rfl ?_
    refine L_assign rfl rfl ?_
    refine L_nil ?_
    obtain rfl := Option.some.inj hp
    refine W_ret ?_
    refine res1 rfl (ResOK.tmp rfl) ⟨bits .and .i64 (IntKind.wrap .i64 (bits .and .i64 (bits .xor .i64 (IntKind.wrap .i64 (IntKind.wrap .i64 (a0_3 * 6364136223846793005) + 1442695040888963407) / 2 ^ (33 : Int).toNat) (IntKind.wrap .i64 (IntKind.wrap .i64 (a0_3 * 6364136223846793005) + 1442695040888963407) / 2 ^ (45 : Int).toNat)) 255 + IntKind.wrap .i64 (u2.toNat : Int))) 255, (a0_1, IntKind.wrap .i64 (a0_2 + 1), IntKind.wrap .i64 (IntKind.wrap .i64 (a0_3 * 6364136223846793005) + 1442695040888963407)), rfl, rfl, rfl, rfl⟩ (MSub.cons (by first | (with_reducible repeat (first | exact Pick.here _ | apply Pick.there)); done | (repeat (first | exact Pick.here _ | apply Pick.there))) (MSub.nil _))
  · skip
    replace hp := cond_f hc1 hp
    refine W_skip ?_
    refine W_seq ?_
    refine W_region ?_
    refine L_move rfl rfl ?_
    refine L_assign rfl rfl ?_
    refine L_nil ?_
    obtain rfl := Option.some.inj hp
    refine W_ret ?_
    refine res1 rfl (ResOK.tmp rfl) ⟨bits .and .i64 (bits .xor .i64 (IntKind.wrap .i64 (IntKind.wrap .i64 (a0_3 * 6364136223846793005) + 1442695040888963407) / 2 ^ (33 : Int).toNat) (IntKind.wrap .i64 (IntKind.wrap .i64 (a0_3 * 6364136223846793005) + 1442695040888963407) / 2 ^ (45 : Int).toNat)) 255, (a0_1, a0_2, IntKind.wrap .i64 (IntKind.wrap .i64 (a0_3 * 6364136223846793005) + 1442695040888963407)), rfl, rfl, rfl, rfl⟩ (MSub.cons (by first | (with_reducible repeat (first | exact Pick.here _ | apply Pick.there)); done | (repeat (first | exact Pick.here _ | apply Pick.there))) (MSub.nil _))

noncomputable def s_l1Below (a0 : D_l1Cur) (a1 : Int) : Option (Int × D_l1Cur) :=
  cond (decide (a1 ≤ 0)) (some (0, (a0.1, a0.2.1, a0.2.2))) (cond (decide (a1 ≤ 256)) (Option.bind (s_l1Byte (a0.1, a0.2.1, a0.2.2)) (fun y3 => Option.bind (remP y3.1 a1) (fun y4 => some (y4, (y3.2.1, y3.2.2.1, y3.2.2.2))))) (Option.bind (s_l1Byte (a0.1, a0.2.1, a0.2.2)) (fun y5 => Option.bind (s_l1Byte (y5.2.1, y5.2.2.1, y5.2.2.2)) (fun y6 => Option.bind (s_l1Byte (y6.2.1, y6.2.2.1, y6.2.2.2)) (fun y7 => Option.bind (s_l1Byte (y7.2.1, y7.2.2.1, y7.2.2.2)) (fun y8 => Option.bind (remP (IntKind.wrap .i64 (IntKind.wrap .i64 (IntKind.wrap .i64 (IntKind.wrap .i64 (y5.1 * 16777216) + IntKind.wrap .i64 (y6.1 * 65536)) + IntKind.wrap .i64 (y7.1 * 256)) + y8.1)) a1) (fun y9 => some (y9, (y8.2.1, y8.2.2.1, y8.2.2.2)))))))))

theorem s_l1Below_walk (w : World) (b0_ : Nat) (a0 : T_l1Cur) (a1 : Int) (h0_0 : GT.rd w (fps [blk b0_ (GT.cells a0) 141]) a0.1) (r : Int × D_l1Cur) (hp : s_l1Below (GT.dat a0) a1 = some r) : Spec Tryd.prog 84 [Value.pointer (some ⟨b0_, 0, none⟩), .int .i64 a1].toArray w [blk b0_ (GT.cells a0) 141] (fun v M => ∃ (x0 : Int) (y0 : T_l1Cur), v = .int .i64 x0 ∧ (GT.dat x0, GT.dat y0) = r ∧ M = [blk b0_ (GT.cells y0) 141] ∧ y0.1 = a0.1) := by
  obtain ⟨a0_1, a0_2, a0_3⟩ := a0
  change Spec _ _ ([Value.pointer (some ⟨b0_, 0, none⟩), .int .i64 a1] : List Value).toArray w _ _
  refine Spec.intro Tryd.func84 rfl Tryd.ntmps84 rfl ?_
  unfold s_l1Below at hp
  try dsimp only [dat_pair, dat_int, dat_bool, dat_str, dat_ar] at hp
  refine W_seq ?_
  refine W_region ?_
  refine L_assign rfl rfl ?_
  refine L_nil ?_
  refine W_seq ?_
  refine W_seq ?_
  refine W_region ?_
  refine L_move rfl rfl ?_
  refine L_binV rfl rfl rfl bv_leq ?_
  refine L_nil ?_
  refine W_weaken (l' := [(0, _), (1, _), (10, _)]) (Sub.cons rfl (Sub.cons rfl (Sub.cons rfl (Sub.nil _)))) (MSub.refl _) ?_
  refine W_cond rfl (fun hc1 => ?_) (fun hc1 => ?_)
  · skip
    replace hp := cond_t hc1 hp
    refine W_seq ?_
    refine W_region ?_
    refine L_assign rfl rfl ?_
    refine L_nil ?_
    obtain rfl := Option.some.inj hp
    refine W_ret ?_
    refine res1 rfl (ResOK.tmp rfl) ⟨0, (a0_1, a0_2, a0_3), rfl, rfl, rfl, rfl⟩ (MSub.cons (by first | (with_reducible repeat (first | exact Pick.here _ | apply Pick.there)); done | (repeat (first | exact Pick.here _ | apply Pick.there))) (MSub.nil _))
  · skip
    replace hp := cond_f hc1 hp
    refine W_skip ?_
    refine W_seq ?_
    refine W_seq ?_
    refine W_region ?_
    refine L_move rfl rfl ?_
    refine L_binV rfl rfl rfl bv_leq ?_
    refine L_nil ?_
    refine W_weaken (l' := [(0, _), (1, _), (12, _)]) (Sub.cons rfl (Sub.cons rfl (Sub.cons rfl (Sub.nil _)))) (MSub.refl _) ?_
    refine W_cond rfl (fun hc2 => ?_) (fun hc2 => ?_)
    · skip
      replace hp := cond_t hc2 hp
      refine W_seq ?_
      refine W_region ?_
      refine L_move rfl rfl ?_
      have ho := hp; clear hp; obtain ⟨y3, hy3, hp⟩ := bind_any ho; clear ho
      refine L_callM [blk b0_ _ _] _ rfl fn119 rfl (perm_cons (by first | (with_reducible repeat (first | exact Pick.here _ | apply Pick.there)); done | (repeat (first | exact Pick.here _ | apply Pick.there))) (perm_nil_left _)) (by exact fun w hw => s_l1Byte_walk w b0_ (a0_1, a0_2, a0_3) ((RdX.old h0_0) w hw) _ hy3) ?_
      rintro vy3 My3 ⟨y3x0, y3y0, hvy3, hdy3, rfl, hey3_0⟩
      subst hvy3
      subst hdy3
      obtain ⟨y3y0_1, y3y0_2, y3y0_3⟩ := y3y0
      obtain rfl : a0_1 = y3y0_1 := hey3_0.symm
      simp only [cells_pair, cells_int, cells_bool, cells_str, cells_TL, List.cons_append, List.nil_append]
      try dsimp only [dat_pair, dat_int, dat_bool, dat_str, dat_ar] at hp
      refine L_move rfl rfl ?_
      have ho := hp; clear hp; obtain ⟨y4, hy4, hp⟩ := bind_any ho; clear ho
      refine L_binV rfl rfl rfl (bv_remP hy4) ?_
      refine L_assign rfl rfl ?_
      refine L_nil ?_
      obtain rfl := Option.some.inj hp
      refine W_ret ?_
      refine res1 rfl (ResOK.tmp rfl) ⟨y4, (a0_1, y3y0_2, y3y0_3), rfl, rfl, rfl, rfl⟩ (MSub.cons (by first | (with_reducible repeat (first | exact Pick.here _ | apply Pick.there)); done | (repeat (first | exact Pick.here _ | apply Pick.there))) (MSub.nil _))
    · skip
      replace hp := cond_f hc2 hp
      refine W_skip ?_
      refine W_seq ?_
      refine W_region ?_
      refine L_move rfl rfl ?_
      have ho := hp; clear hp; obtain ⟨y5, hy5, hp⟩ := bind_any ho; clear ho
      refine L_callM [blk b0_ _ _] _ rfl fn119 rfl (perm_cons (by first | (with_reducible repeat (first | exact Pick.here _ | apply Pick.there)); done | (repeat (first | exact Pick.here _ | apply Pick.there))) (perm_nil_left _)) (by exact fun w hw => s_l1Byte_walk w b0_ (a0_1, a0_2, a0_3) ((RdX.old h0_0) w hw) _ hy5) ?_
      rintro vy5 My5 ⟨y5x0, y5y0, hvy5, hdy5, rfl, hey5_0⟩
      subst hvy5
      subst hdy5
      obtain ⟨y5y0_1, y5y0_2, y5y0_3⟩ := y5y0
      obtain rfl : a0_1 = y5y0_1 := hey5_0.symm
      simp only [cells_pair, cells_int, cells_bool, cells_str, cells_TL, List.cons_append, List.nil_append]
      try dsimp only [dat_pair, dat_int, dat_bool, dat_str, dat_ar] at hp
      refine L_assign rfl rfl ?_
      refine L_nil ?_
      refine W_seq ?_
      refine W_region ?_
      refine L_move rfl rfl ?_
      have ho := hp; clear hp; obtain ⟨y6, hy6, hp⟩ := bind_any ho; clear ho
      refine L_callM [blk b0_ _ _] _ rfl fn119 rfl (perm_cons (by first | (with_reducible repeat (first | exact Pick.here _ | apply Pick.there)); done | (repeat (first | exact Pick.here _ | apply Pick.there))) (perm_nil_left _)) (by exact fun w hw => s_l1Byte_walk w b0_ (a0_1, y5y0_2, y5y0_3) ((RdX.old h0_0) w hw) _ hy6) ?_
      rintro vy6 My6 ⟨y6x0, y6y0, hvy6, hdy6, rfl, hey6_0⟩
      subst hvy6
      subst hdy6
      obtain ⟨y6y0_1, y6y0_2, y6y0_3⟩ := y6y0
      obtain rfl : a0_1 = y6y0_1 := hey6_0.symm
      simp only [cells_pair, cells_int, cells_bool, cells_str, cells_TL, List.cons_append, List.nil_append]
      try dsimp only [dat_pair, dat_int, dat_bool, dat_str, dat_ar] at hp
      refine L_assign rfl rfl ?_
      refine L_nil ?_
      refine W_seq ?_
      refine W_region ?_
      refine L_move rfl rfl ?_
      have ho := hp; clear hp; obtain ⟨y7, hy7, hp⟩ := bind_any ho; clear ho
      refine L_callM [blk b0_ _ _] _ rfl fn119 rfl (perm_cons (by first | (with_reducible repeat (first | exact Pick.here _ | apply Pick.there)); done | (repeat (first | exact Pick.here _ | apply Pick.there))) (perm_nil_left _)) (by exact fun w hw => s_l1Byte_walk w b0_ (a0_1, y6y0_2, y6y0_3) ((RdX.old h0_0) w hw) _ hy7) ?_
      rintro vy7 My7 ⟨y7x0, y7y0, hvy7, hdy7, rfl, hey7_0⟩
      subst hvy7
      subst hdy7
      obtain ⟨y7y0_1, y7y0_2, y7y0_3⟩ := y7y0
      obtain rfl : a0_1 = y7y0_1 := hey7_0.symm
      simp only [cells_pair, cells_int, cells_bool, cells_str, cells_TL, List.cons_append, List.nil_append]
      try dsimp only [dat_pair, dat_int, dat_bool, dat_str, dat_ar] at hp
      refine L_assign rfl rfl ?_
      refine L_nil ?_
      refine W_seq ?_
      refine W_region ?_
      refine L_move rfl rfl ?_
      have ho := hp; clear hp; obtain ⟨y8, hy8, hp⟩ := bind_any ho; clear ho
      refine L_callM [blk b0_ _ _] _ rfl fn119 rfl (perm_cons (by first | (with_reducible repeat (first | exact Pick.here _ | apply Pick.there)); done | (repeat (first | exact Pick.here _ | apply Pick.there))) (perm_nil_left _)) (by exact fun w hw => s_l1Byte_walk w b0_ (a0_1, y7y0_2, y7y0_3) ((RdX.old h0_0) w hw) _ hy8) ?_
      rintro vy8 My8 ⟨y8x0, y8y0, hvy8, hdy8, rfl, hey8_0⟩
      subst hvy8
      subst hdy8
      obtain ⟨y8y0_1, y8y0_2, y8y0_3⟩ := y8y0
      obtain rfl : a0_1 = y8y0_1 := hey8_0.symm
      simp only [cells_pair, cells_int, cells_bool, cells_str, cells_TL, List.cons_append, List.nil_append]
      try dsimp only [dat_pair, dat_int, dat_bool, dat_str, dat_ar] at hp
      refine L_assign rfl rfl ?_
      refine L_nil ?_
      refine W_seq ?_
      refine W_region ?_
      refine L_move rfl rfl ?_
      refine L_binV rfl rfl rfl bv_mul ?_
      refine L_move rfl rfl ?_
      refine L_binV rfl rfl rfl bv_mul ?_
      refine L_binV rfl rfl rfl bv_add ?_
      refine L_move rfl rfl ?_
      refine L_binV rfl rfl rfl bv_mul ?_
      refine L_binV rfl rfl rfl bv_add ?_
      refine L_move rfl rfl ?_
      refine L_binV rfl rfl rfl bv_add ?_
      refine L_move rfl rfl ?_
      have ho := hp; clear hp; obtain ⟨y9, hy9, hp⟩ := bind_any ho; clear ho
      refine L_binV rfl rfl rfl (bv_remP hy9) ?_
      refine L_assign rfl rfl ?_
      refine L_nil ?_
      obtain rfl := Option.some.inj hp
      refine W_ret ?_
      refine res1 rfl (ResOK.tmp rfl) ⟨y9, (a0_1, y8y0_2, y8y0_3), rfl, rfl, rfl, rfl⟩ (MSub.cons (by first | (with_reducible repeat (first | exact Pick.here _ | apply Pick.there)); done | (repeat (first | exact Pick.here _ | apply Pick.there))) (MSub.nil _))

noncomputable def s_l1Text (a0 : D_l1Cur) (a1 : Int) : Option (ByteArray × D_l1Cur) :=
  Option.bind (some ([] : List UInt8)) (fun y2 => Option.bind (s_l1Below (a0.1, a0.2.1, a0.2.2) 4) (fun y3 => Option.bind (s_l1Below (y3.2.1, y3.2.2.1, y3.2.2.2) (IntKind.wrap .i64 (a1 + 1))) (fun y4 => whileP (fun s5 : (List UInt8) × Int × Int × Int => cond (decide (0 < s5.2.1)) (Option.bind (s_l1Byte (y4.2.1, s5.2.2.1, s5.2.2.2)) (fun y7 => cond (decide (y3.1 = 1)) (cond (decide (y3.1 = 2)) (Option.bind (u8P (IntKind.wrap .u8 (IntKind.wrap .i64 (97 + ((y7.1).tmod 2).tmod 4)))) (fun y10 => Option.bind (appP s5.1 [y10]) (fun y12 => some (.inl ((y12, IntKind.wrap .i64 (s5.2.1 - 1), y7.2.2.1, y7.2.2.2)))))) (Option.bind (u8P (IntKind.wrap .u8 ((y7.1).tmod 2))) (fun y13 => Option.bind (appP s5.1 [y13]) (fun y15 => some (.inl ((y15, IntKind.wrap .i64 (s5.2.1 - 1), y7.2.2.1, y7.2.2.2))))))) (cond (decide (y3.1 = 2)) (Option.bind (u8P (IntKind.wrap .u8 (IntKind.wrap .i64 (97 + (y7.1).tmod 4)))) (fun y17 => Option.bind (appP s5.1 [y17]) (fun y19 => some (.inl ((y19, IntKind.wrap .i64 (s5.2.1 - 1), y7.2.2.1, y7.2.2.2)))))) (Option.bind (u8P (IntKind.wrap .u8 y7.1)) (fun y20 => Option.bind (appP s5.1 [y20]) (fun y22 => some (.inl ((y22, IntKind.wrap .i64 (s5.2.1 - 1), y7.2.2.1, y7.2.2.2))))))))) (Option.map .inr (some ((strP s5.1), (y4.2.1, s5.2.2.1, s5.2.2.2))))) (y2, y4.1, y4.2.2.1, y4.2.2.2))))

theorem s_l1Text_walk (w : World) (b0_ : Nat) (a0 : T_l1Cur) (a1 : Int) (h0_0 : GT.rd w (fps [blk b0_ (GT.cells a0) 141]) a0.1) (r : ByteArray × D_l1Cur) (hp : s_l1Text (GT.dat a0) a1 = some r) : Spec Tryd.prog 94 [Value.pointer (some ⟨b0_, 0, none⟩), .int .i64 a1].toArray w [blk b0_ (GT.cells a0) 141] (fun v M => ∃ (x0 : ByteArray) (y0 : T_l1Cur), v = .string x0 ∧ (GT.dat x0, GT.dat y0) = r ∧ M = [blk b0_ (GT.cells y0) 141] ∧ y0.1 = a0.1) := by
  obtain ⟨a0_1, a0_2, a0_3⟩ := a0
  change Spec _ _ ([Value.pointer (some ⟨b0_, 0, none⟩), .int .i64 a1] : List Value).toArray w _ _
  refine Spec.intro Tryd.func94 rfl Tryd.ntmps94 rfl ?_
  unfold s_l1Text at hp
  try dsimp only [dat_pair, dat_int, dat_bool, dat_str, dat_ar] at hp
  refine W_seq ?_
  refine W_region ?_
  refine L_assign rfl rfl ?_
  refine L_nil ?_
  refine W_seq ?_
  refine W_region ?_
  have ho := hp; clear hp; obtain ⟨y2, hy2, hp⟩ := bind_any ho; clear ho
  refine L_mk0 UInt8 rfl el59 (fun X1 hdX1 => ?_)
  obtain rfl : GT.dat X1 = y2 := hdX1.trans (Option.some.inj hy2)
  clear hy2 hdX1
  refine L_assign rfl rfl ?_
  refine L_nil ?_
  refine W_seq ?_
  refine W_region ?_
  refine L_move rfl rfl ?_
  have ho := hp; clear hp; obtain ⟨y3, hy3, hp⟩ := bind_any ho; clear ho
  refine L_callM [blk b0_ _ _] _ rfl fn84 rfl (perm_cons (by first | (with_reducible repeat (first | exact Pick.here _ | apply Pick.there)); done | (repeat (first | exact Pick.here _ | apply Pick.there))) (perm_nil_left _)) (by exact fun w hw => s_l1Below_walk w b0_ (a0_1, a0_2, a0_3) 4 ((RdX.old h0_0) w hw) _ hy3) ?_
  rintro vy3 My3 ⟨y3x0, y3y0, hvy3, hdy3, rfl, hey3_0⟩
  subst hvy3
  subst hdy3
  obtain ⟨y3y0_1, y3y0_2, y3y0_3⟩ := y3y0
  obtain rfl : a0_1 = y3y0_1 := hey3_0.symm
  simp only [cells_pair, cells_int, cells_bool, cells_str, cells_TL, List.cons_append, List.nil_append]
  try dsimp only [dat_pair, dat_int, dat_bool, dat_str, dat_ar] at hp
  refine L_assign rfl rfl ?_
  refine L_nil ?_
  refine W_seq ?_
  refine W_seq ?_
  refine W_region ?_
  refine L_move rfl rfl ?_
  refine L_move rfl rfl ?_
  refine L_binV rfl rfl rfl bv_add ?_
  have ho := hp; clear hp; obtain ⟨y4, hy4, hp⟩ := bind_any ho; clear ho
  refine L_callM [blk b0_ _ _] _ rfl fn84 rfl (perm_cons (by first | (with_reducible repeat (first | exact Pick.here _ | apply Pick.there)); done | (repeat (first | exact Pick.here _ | apply Pick.there))) (perm_nil_left _)) (by exact fun w hw => s_l1Below_walk w b0_ (a0_1, y3y0_2, y3y0_3) (IntKind.wrap .i64 (a1 + 1)) ((RdX.old h0_0) w hw) _ hy4) ?_
  rintro vy4 My4 ⟨y4x0, y4y0, hvy4, hdy4, rfl, hey4_0⟩
  subst hvy4
  subst hdy4
  obtain ⟨y4y0_1, y4y0_2, y4y0_3⟩ := y4y0
  obtain rfl : a0_1 = y4y0_1 := hey4_0.symm
  simp only [cells_pair, cells_int, cells_bool, cells_str, cells_TL, List.cons_append, List.nil_append]
  try dsimp only [dat_pair, dat_int, dat_bool, dat_str, dat_ar] at hp
  refine L_assign rfl rfl ?_
  refine L_nil ?_
  refine W_block ?_
  refine W_while (σ := (TL UInt8) × Int × Int × Int) GT.dat (fun ((v5_0, v5_1, v5_2, v5_3) : (TL UInt8) × Int × Int × Int) => [(5, (TL.hdr v5_0)), (7, .int .i64 v5_1)]) (fun ((v5_0, v5_1, v5_2, v5_3) : (TL UInt8) × Int × Int × Int) => [blk b0_ [(TL.hdr a0_1), .int .i64 v5_2, .int .i64 v5_3] 141, treeH v5_0]) [(0, _), (6, _)] [] (X1, y4x0, y4y0_2, y4y0_3) hp (Sub.cons rfl (Sub.cons rfl (Sub.cons rfl (Sub.cons rfl (Sub.nil _))))) (MSub.cons (by first | (with_reducible repeat (first | exact Pick.here _ | apply Pick.there)); done | (repeat (first | exact Pick.here _ | apply Pick.there))) (MSub.cons (by first | (with_reducible repeat (first | exact Pick.here _ | apply Pick.there)); done | (repeat (first | exact Pick.here _ | apply Pick.there))) (MSub.nil _))) ?_
  clear hp
  rintro ⟨v5_0, v5_1, v5_2, v5_3⟩ x5 hp hx5
  try dsimp only [dat_pair, dat_int, dat_bool, dat_str, dat_ar] at hp
  refine W_weaken (l' := [(0, _), (5, _), (6, _), (7, _)]) (Sub.cons rfl (Sub.cons rfl (Sub.cons rfl (Sub.cons rfl (Sub.nil _))))) (M' := [_, _]) (MSub.cons (by first | (with_reducible repeat (first | exact Pick.here _ | apply Pick.there)); done | (repeat (first | exact Pick.here _ | apply Pick.there))) (MSub.cons (by first | (with_reducible repeat (first | exact Pick.here _ | apply Pick.there)); done | (repeat (first | exact Pick.here _ | apply Pick.there))) (MSub.nil _))) ?_
  refine W_seq ?_
  refine W_seq ?_
  refine W_region ?_
  refine L_move rfl rfl ?_
  refine L_binV rfl rfl rfl bv_gtr ?_
  refine L_nil ?_
  refine W_weaken (l' := [(0, _), (5, _), (6, _), (7, _), (17, _)]) (Sub.cons rfl (Sub.cons rfl (Sub.cons rfl (Sub.cons rfl (Sub.cons rfl (Sub.nil _)))))) (MSub.refl _) ?_
  refine W_cond rfl (fun hc6 => ?_) (fun hc6 => ?_)
  · skip
    replace hp := cond_t hc6 hp
    refine W_skip ?_
    refine W_seq ?_
    refine W_block ?_
    refine W_seq ?_
    refine W_region ?_
    refine L_move rfl rfl ?_
    have ho := hp; clear hp; obtain ⟨y7, hy7, hp⟩ := bind_any ho; clear ho
    refine L_callM [blk b0_ _ _] _ rfl fn119 rfl (perm_cons (by first | (with_reducible repeat (first | exact Pick.here _ | apply Pick.there)); done | (repeat (first | exact Pick.here _ | apply Pick.there))) (perm_nil_left _)) (by exact fun w hw => s_l1Byte_walk w b0_ (a0_1, v5_2, v5_3) ((RdX.old h0_0) w hw) _ hy7) ?_
    rintro vy7 My7 ⟨y7x0, y7y0, hvy7, hdy7, rfl, hey7_0⟩
    subst hvy7
    subst hdy7
    obtain ⟨y7y0_1, y7y0_2, y7y0_3⟩ := y7y0
    obtain rfl : a0_1 = y7y0_1 := hey7_0.symm
    simp only [cells_pair, cells_int, cells_bool, cells_str, cells_TL, List.cons_append, List.nil_append]
    try dsimp only [dat_pair, dat_int, dat_bool, dat_str, dat_ar] at hp
    refine L_assign rfl rfl ?_
    refine L_nil ?_
    refine W_seq ?_
    refine W_seq ?_
    refine W_region ?_
    refine L_move rfl rfl ?_
    refine L_binV rfl rfl rfl bv_eql ?_
    refine L_nil ?_
    refine W_weaken (l' := [(0, _), (5, _), (6, _), (7, _), (8, _), (23, _)]) (Sub.cons rfl (Sub.cons rfl (Sub.cons rfl (Sub.cons rfl (Sub.cons rfl (Sub.cons rfl (Sub.nil _))))))) (MSub.refl _) ?_
    refine W_cond rfl (fun hc8 => ?_) (fun hc8 => ?_)
    · skip
      replace hp := cond_t hc8 hp
      refine W_region ?_
      refine L_move rfl rfl ?_
      refine L_binV rfl rfl rfl (bv_rem (by decide)) ?_
      refine L_assign rfl rfl ?_
      refine L_nil ?_
      refine W_seq ?_
      refine W_seq ?_
      refine W_region ?_
      refine L_move rfl rfl ?_
      refine L_binV rfl rfl rfl bv_eql ?_
      refine L_nil ?_
      refine W_weaken (l' := [(0, _), (5, _), (6, _), (7, _), (8, _), (27, _)]) (Sub.cons rfl (Sub.cons rfl (Sub.cons rfl (Sub.cons rfl (Sub.cons rfl (Sub.cons rfl (Sub.nil _))))))) (MSub.refl _) ?_
      refine W_cond rfl (fun hc9 => ?_) (fun hc9 => ?_)
      · skip
        replace hp := cond_t hc9 hp
        refine W_region ?_
        refine L_move rfl rfl ?_
        refine L_binV rfl rfl rfl (bv_rem (by decide)) ?_
        refine L_binV rfl rfl rfl bv_add ?_
        refine L_assign rfl rfl ?_
        refine L_nil ?_
        refine W_region ?_
        refine L_move rfl rfl ?_
        refine L_move rfl rfl ?_
        refine L_convInt rfl rfl und5 (by rw [und3]; rfl) ?_
        have ho := hp; clear hp; obtain ⟨y10, hy10, hp⟩ := bind_any ho; clear ho
        have ey10 := u8P_some hy10
        try simp only [ey10]
        refine L_buildSlice1 rfl rfl el59 rfl (by decide) (by decide) rfl (fun bb34 => ?_)
        have ho := hp; clear hp; obtain ⟨y12, hy12, hp⟩ := bind_any ho; clear ho
        refine L_app1F (X := v5_0) (y10 : UInt8) rfl rfl rfl el59 rfl rfl (by first | (with_reducible repeat (first | exact Pick.here _ | apply Pick.there)); done | (repeat (first | exact Pick.here _ | apply Pick.there))) (by first | (with_reducible repeat (first | exact List.Mem.head _ | apply List.Mem.tail)); done | (repeat (first | exact List.Mem.head _ | apply List.Mem.tail)))  hy12 (by decide) (fun X11 hdX11 => ?_)
        subst hdX11
        refine L_assign rfl rfl ?_
        refine L_nil ?_
        refine W_region ?_
        refine L_move rfl rfl ?_
        refine L_binV rfl rfl rfl bv_sub ?_
        refine L_assign rfl rfl ?_
        refine L_nil ?_
        exact ⟨(X11, IntKind.wrap .i64 (v5_1 - 1), y7y0_2, y7y0_3), (Sub.cons rfl (Sub.cons rfl (Sub.cons rfl (Sub.cons rfl (Sub.nil _))))), (Arr.sub (MSub.cons (by first | (with_reducible repeat (first | exact Pick.here _ | apply Pick.there)); done | (repeat (first | exact Pick.here _ | apply Pick.there))) (MSub.cons (by first | (with_reducible repeat (first | exact Pick.here _ | apply Pick.there)); done | (repeat (first | exact Pick.here _ | apply Pick.there))) (MSub.nil _)))), some_eq hp⟩
      · skip
        replace hp := cond_f hc9 hp
        refine W_skip ?_
        refine W_region ?_
        refine L_move rfl rfl ?_
        refine L_move rfl rfl ?_
        refine L_convInt rfl rfl und5 (by rw [und3]; rfl) ?_
        have ho := hp; clear hp; obtain ⟨y13, hy13, hp⟩ := bind_any ho; clear ho
        have ey13 := u8P_some hy13
        try simp only [ey13]
        refine L_buildSlice1 rfl rfl el59 rfl (by decide) (by decide) rfl (fun bb34 => ?_)
        have ho := hp; clear hp; obtain ⟨y15, hy15, hp⟩ := bind_any ho; clear ho
        refine L_app1F (X := v5_0) (y13 : UInt8) rfl rfl rfl el59 rfl rfl (by first | (with_reducible repeat (first | exact Pick.here _ | apply Pick.there)); done | (repeat (first | exact Pick.here _ | apply Pick.there))) (by first | (with_reducible repeat (first | exact List.Mem.head _ | apply List.Mem.tail)); done | (repeat (first | exact List.Mem.head _ | apply List.Mem.tail)))  hy15 (by decide) (fun X14 hdX14 => ?_)
        subst hdX14
        refine L_assign rfl rfl ?_
        refine L_nil ?_
        refine W_region ?_
        refine L_move rfl rfl ?_
        refine L_binV rfl rfl rfl bv_sub ?_
        refine L_assign rfl rfl ?_
        refine L_nil ?_
        exact ⟨(X14, IntKind.wrap .i64 (v5_1 - 1), y7y0_2, y7y0_3), (Sub.cons rfl (Sub.cons rfl (Sub.cons rfl (Sub.cons rfl (Sub.nil _))))), (Arr.sub (MSub.cons (by first | (with_reducible repeat (first | exact Pick.here _ | apply Pick.there)); done | (repeat (first | exact Pick.here _ | apply Pick.there))) (MSub.cons (by first | (with_reducible repeat (first | exact Pick.here _ | apply Pick.there)); done | (repeat (first | exact Pick.here _ | apply Pick.there))) (MSub.nil _)))), some_eq hp⟩
    · skip
      replace hp := cond_f hc8 hp
      refine W_skip ?_
      refine W_seq ?_
      refine W_seq ?_
      refine W_region ?_
      refine L_move rfl rfl ?_
      refine L_binV rfl rfl rfl bv_eql ?_
      refine L_nil ?_
      refine W_weaken (l' := [(0, _), (5, _), (6, _), (7, _), (8, _), (27, _)]) (Sub.cons rfl (Sub.cons rfl (Sub.cons rfl (Sub.cons rfl (Sub.cons rfl (Sub.cons rfl (Sub.nil _))))))) (MSub.refl _) ?_
      refine W_cond rfl (fun hc16 => ?_) (fun hc16 => ?_)
      · skip
        replace hp := cond_t hc16 hp
        refine W_region ?_
        refine L_move rfl rfl ?_
        refine L_binV rfl rfl rfl (bv_rem (by decide)) ?_
        refine L_binV rfl rfl rfl bv_add ?_
        refine L_assign rfl rfl ?_
        refine L_nil ?_
        refine W_region ?_
        refine L_move rfl rfl ?_
        refine L_move rfl rfl ?_
        refine L_convInt rfl rfl und5 (by rw [und3]; rfl) ?_
        have ho := hp; clear hp; obtain ⟨y17, hy17, hp⟩ := bind_any ho; clear ho
        have ey17 := u8P_some hy17
        try simp only [ey17]
        refine L_buildSlice1 rfl rfl el59 rfl (by decide) (by decide) rfl (fun bb34 => ?_)
        have ho := hp; clear hp; obtain ⟨y19, hy19, hp⟩ := bind_any ho; clear ho
        refine L_app1F (X := v5_0) (y17 : UInt8) rfl rfl rfl el59 rfl rfl (by first | (with_reducible repeat (first | exact Pick.here _ | apply Pick.there)); done | (repeat (first | exact Pick.here _ | apply Pick.there))) (by first | (with_reducible repeat (first | exact List.Mem.head _ | apply List.Mem.tail)); done | (repeat (first | exact List.Mem.head _ | apply List.Mem.tail)))  hy19 (by decide) (fun X18 hdX18 => ?_)
        subst hdX18
        refine L_assign rfl rfl ?_
        refine L_nil ?_
        refine W_region ?_
        refine L_move rfl rfl ?_
        refine L_binV rfl rfl rfl bv_sub ?_
        refine L_assign rfl rfl ?_
        refine L_nil ?_
        exact ⟨(X18, IntKind.wrap .i64 (v5_1 - 1), y7y0_2, y7y0_3), (Sub.cons rfl (Sub.cons rfl (Sub.cons rfl (Sub.cons rfl (Sub.nil _))))), (Arr.sub (MSub.cons (by first | (with_reducible repeat (first | exact Pick.here _ | apply Pick.there)); done | (repeat (first | exact Pick.here _ | apply Pick.there))) (MSub.cons (by first | (with_reducible repeat (first | exact Pick.here _ | apply Pick.there)); done | (repeat (first | exact Pick.here _ | apply Pick.there))) (MSub.nil _)))), some_eq hp⟩
      · skip
        replace hp := cond_f hc16 hp
        refine W_skip ?_
        refine W_region ?_
        refine L_move rfl rfl ?_
        refine L_move rfl rfl ?_
        refine L_convInt rfl rfl und5 (by rw [und3]; rfl) ?_
        have ho := hp; clear hp; obtain ⟨y20, hy20, hp⟩ := bind_any ho; clear ho
        have ey20 := u8P_some hy20
        try simp only [ey20]
        refine L_buildSlice1 rfl rfl el59 rfl (by decide) (by decide) rfl (fun bb34 => ?_)
        have ho := hp; clear hp; obtain ⟨y22, hy22, hp⟩ := bind_any ho; clear ho
        refine L_app1F (X := v5_0) (y20 : UInt8) rfl rfl rfl el59 rfl rfl (by first | (with_reducible repeat (first | exact Pick.here _ | apply Pick.there)); done | (repeat (first | exact Pick.here _ | apply Pick.there))) (by first | (with_reducible repeat (first | exact List.Mem.head _ | apply List.Mem.tail)); done | (repeat (first | exact List.Mem.head _ | apply List.Mem.tail)))  hy22 (by decide) (fun X21 hdX21 => ?_)
        subst hdX21
        refine L_assign rfl rfl ?_
        refine L_nil ?_
        refine W_region ?_
        refine L_move rfl rfl ?_
        refine L_binV rfl rfl rfl bv_sub ?_
        refine L_assign rfl rfl ?_
        refine L_nil ?_
        exact ⟨(X21, IntKind.wrap .i64 (v5_1 - 1), y7y0_2, y7y0_3), (Sub.cons rfl (Sub.cons rfl (Sub.cons rfl (Sub.cons rfl (Sub.nil _))))), (Arr.sub (MSub.cons (by first | (with_reducible repeat (first | exact Pick.here _ | apply Pick.there)); done | (repeat (first | exact Pick.here _ | apply Pick.there))) (MSub.cons (by first | (with_reducible repeat (first | exact Pick.here _ | apply Pick.there)); done | (repeat (first | exact Pick.here _ | apply Pick.there))) (MSub.nil _)))), some_eq hp⟩
  · skip
    replace hp := cond_f hc6 hp
    refine W_exit ?_
    have ho := hp; clear hp; obtain ⟨a23, hp, hx_a23⟩ := map_any ho; clear ho
    obtain rfl := hx5 _ hx_a23
    refine W_seq ?_
    refine W_region ?_
    refine L_move rfl rfl ?_
    refine L_toStr (X := v5_0) rfl rfl und59 und5 und9 (RdT.tree (by first | (with_reducible repeat (first | exact List.Mem.head _ | apply List.Mem.tail)); done | (repeat (first | exact List.Mem.head _ | apply List.Mem.tail)))) ?_
    refine L_assign rfl rfl ?_
    refine L_nil ?_
    obtain rfl := Option.some.inj hp
    refine W_ret ?_
    refine res1 rfl (ResOK.tmp rfl) ⟨(strP (GT.dat v5_0)), (a0_1, v5_2, v5_3), rfl, rfl, rfl, rfl⟩ (MSub.cons (by first | (with_reducible repeat (first | exact Pick.here _ | apply Pick.there)); done | (repeat (first | exact Pick.here _ | apply Pick.there))) (MSub.nil _))

noncomputable def s_l1Once (a0 : D_l1Cur) (a1 : Int) : Option (Bool × D_l1Cur) :=
  Option.bind (s_l1Below (a0.1, a0.2.1, a0.2.2) a1) (fun y1 => some (decide (y1.1 = 0), (y1.2.1, y1.2.2.1, y1.2.2.2)))

theorem s_l1Once_walk (w : World) (b0_ : Nat) (a0 : T_l1Cur) (a1 : Int) (h0_0 : GT.rd w (fps [blk b0_ (GT.cells a0) 141]) a0.1) (r : Bool × D_l1Cur) (hp : s_l1Once (GT.dat a0) a1 = some r) : Spec Tryd.prog 83 [Value.pointer (some ⟨b0_, 0, none⟩), .int .i64 a1].toArray w [blk b0_ (GT.cells a0) 141] (fun v M => ∃ (x0 : Bool) (y0 : T_l1Cur), v = .bool x0 ∧ (GT.dat x0, GT.dat y0) = r ∧ M = [blk b0_ (GT.cells y0) 141] ∧ y0.1 = a0.1) := by
  obtain ⟨a0_1, a0_2, a0_3⟩ := a0
  change Spec _ _ ([Value.pointer (some ⟨b0_, 0, none⟩), .int .i64 a1] : List Value).toArray w _ _
  refine Spec.intro Tryd.func83 rfl Tryd.ntmps83 rfl ?_
  unfold s_l1Once at hp
  try dsimp only [dat_pair, dat_int, dat_bool, dat_str, dat_ar] at hp
  refine W_seq ?_
  refine W_region ?_
  refine L_assign rfl rfl ?_
  refine L_nil ?_
  refine W_seq ?_
  refine W_region ?_
  refine L_move rfl rfl ?_
  refine L_move rfl rfl ?_
  have ho := hp; clear hp; obtain ⟨y1, hy1, hp⟩ := bind_any ho; clear ho
  refine L_callM [blk b0_ _ _] _ rfl fn84 rfl (perm_cons (by first | (with_reducible repeat (first | exact Pick.here _ | apply Pick.there)); done | (repeat (first | exact Pick.here _ | apply Pick.there))) (perm_nil_left _)) (by exact fun w hw => s_l1Below_walk w b0_ (a0_1, a0_2, a0_3) a1 ((RdX.old h0_0) w hw) _ hy1) ?_
  rintro vy1 My1 ⟨y1x0, y1y0, hvy1, hdy1, rfl, hey1_0⟩
  subst hvy1
  subst hdy1
  obtain ⟨y1y0_1, y1y0_2, y1y0_3⟩ := y1y0
  obtain rfl : a0_1 = y1y0_1 := hey1_0.symm
  simp only [cells_pair, cells_int, cells_bool, cells_str, cells_TL, List.cons_append, List.nil_append]
  try dsimp only [dat_pair, dat_int, dat_bool, dat_str, dat_ar] at hp
  refine L_binV rfl rfl rfl bv_eql ?_
  refine L_assign rfl rfl ?_
  refine L_nil ?_
  obtain rfl := Option.some.inj hp
  refine W_ret ?_
  refine res1 rfl (ResOK.tmp rfl) ⟨decide (y1x0 = 0), (a0_1, y1y0_2, y1y0_3), rfl, rfl, rfl, rfl⟩ (MSub.cons (by first | (with_reducible repeat (first | exact Pick.here _ | apply Pick.there)); done | (repeat (first | exact Pick.here _ | apply Pick.there))) (MSub.nil _))

noncomputable def s_l1Spoil (a0 : D_l1Cur) (a1 : ByteArray) : Option (ByteArray × D_l1Cur) :=
  cond (decide ((a1.size : Int) = 0)) (Option.bind (s_l1Text (a0.1, a0.2.1, a0.2.2) 3) (fun y2 => some (y2.1, (y2.2.1, y2.2.2.1, y2.2.2.2)))) (Option.bind (s_l1Below (a0.1, a0.2.1, a0.2.2) (a1.size : Int)) (fun y3 => Option.bind (s_l1Below (y3.2.1, y3.2.2.1, y3.2.2.2) 4) (fun y4 => cond (decide (y4.1 = 0)) (Option.bind (sslP a1 0 y3.1) (fun y6 => Option.bind (sslP a1 (IntKind.wrap .i64 (y3.1 + 1)) (a1.size : Int)) (fun y7 => Option.bind (catP y6 y7) (fun y8 => some (y8, (y4.2.1, y4.2.2.1, y4.2.2.2)))))) (cond (decide (y4.1 = 1)) (Option.bind (sslP a1 0 y3.1) (fun y10 => Option.bind (s_l1Byte (y4.2.1, y4.2.2.1, y4.2.2.2)) (fun y11 => Option.bind (u8P (IntKind.wrap .u8 y11.1)) (fun y12 => Option.bind (some ([y12] : List UInt8)) (fun y13 => Option.bind (catP y10 (strP y13)) (fun y15 => Option.bind (sslP a1 y3.1 (a1.size : Int)) (fun y16 => Option.bind (catP y15 y16) (fun y17 => some (y17, (y11.2.1, y11.2.2.1, y11.2.2.2)))))))))) (cond (decide (y4.1 = 2)) (Option.bind (sslP a1 0 y3.1) (fun y19 => some (y19, (y4.2.1, y4.2.2.1, y4.2.2.2)))) (Option.bind (sslP a1 0 y3.1) (fun y20 => Option.bind (sidx a1 y3.1) (fun y21 => Option.bind (s_l1Below (y4.2.1, y4.2.2.1, y4.2.2.2) 255) (fun y22 => Option.bind (u8P (IntKind.wrap .u8 (bits .xor .i64 (IntKind.wrap .i64 y21) (IntKind.wrap .i64 (1 + y22.1))))) (fun y23 => Option.bind (some ([y23] : List UInt8)) (fun y24 => Option.bind (catP y20 (strP y24)) (fun y26 => Option.bind (sslP a1 (IntKind.wrap .i64 (y3.1 + 1)) (a1.size : Int)) (fun y27 => Option.bind (catP y26 y27) (fun y28 => some (y28, (y22.2.1, y22.2.2.1, y22.2.2.2))))))))))))))))

theorem s_l1Spoil_walk (w : World) (b0_ : Nat) (a0 : T_l1Cur) (a1 : ByteArray) (h0_0 : GT.rd w (fps [blk b0_ (GT.cells a0) 141]) a0.1) (r : ByteArray × D_l1Cur) (hp : s_l1Spoil (GT.dat a0) a1 = some r) : Spec Tryd.prog 95 [Value.pointer (some ⟨b0_, 0, none⟩), .string a1].toArray w [blk b0_ (GT.cells a0) 141] (fun v M => ∃ (x0 : ByteArray) (y0 : T_l1Cur), v = .string x0 ∧ (GT.dat x0, GT.dat y0) = r ∧ M = [blk b0_ (GT.cells y0) 141] ∧ y0.1 = a0.1) := by
  obtain ⟨a0_1, a0_2, a0_3⟩ := a0
  change Spec _ _ ([Value.pointer (some ⟨b0_, 0, none⟩), .string a1] : List Value).toArray w _ _
  refine Spec.intro Tryd.func95 rfl Tryd.ntmps95 rfl ?_
  unfold s_l1Spoil at hp
  try dsimp only [dat_pair, dat_int, dat_bool, dat_str, dat_ar] at hp
  refine W_seq ?_
  refine W_region ?_
  refine L_assign rfl rfl ?_
  refine L_nil ?_
  refine W_seq ?_
  refine W_seq ?_
  refine W_region ?_
  refine L_move rfl rfl ?_
  refine L_lenT rfl rfl str9 ?_
  refine L_binV rfl rfl rfl bv_eql ?_
  refine L_nil ?_
  refine W_weaken (l' := [(0, _), (1, _), (8, _)]) (Sub.cons rfl (Sub.cons rfl (Sub.cons rfl (Sub.nil _)))) (MSub.refl _) ?_
  refine W_cond rfl (fun hc1 => ?_) (fun hc1 => ?_)
  · skip
    replace hp := cond_t hc1 hp
    refine W_seq ?_
    refine W_region ?_
    refine L_move rfl rfl ?_
    have ho := hp; clear hp; obtain ⟨y2, hy2, hp⟩ := bind_any ho; clear ho
    refine L_callM [blk b0_ _ _] _ rfl fn94 rfl (perm_cons (by first | (with_reducible repeat (first | exact Pick.here _ | apply Pick.there)); done | (repeat (first | exact Pick.here _ | apply Pick.there))) (perm_nil_left _)) (by exact fun w hw => s_l1Text_walk w b0_ (a0_1, a0_2, a0_3) 3 ((RdX.old h0_0) w hw) _ hy2) ?_
    rintro vy2 My2 ⟨y2x0, y2y0, hvy2, hdy2, rfl, hey2_0⟩
    subst hvy2
    subst hdy2
    obtain ⟨y2y0_1, y2y0_2, y2y0_3⟩ := y2y0
    obtain rfl : a0_1 = y2y0_1 := hey2_0.symm
    simp only [cells_pair, cells_int, cells_bool, cells_str, cells_TL, List.cons_append, List.nil_append]
    try dsimp only [dat_pair, dat_int, dat_bool, dat_str, dat_ar] at hp
    refine L_assign rfl rfl ?_
    refine L_nil ?_
    obtain rfl := Option.some.inj hp
    refine W_ret ?_
    refine res1 rfl (ResOK.tmp rfl) ⟨y2x0, (a0_1, y2y0_2, y2y0_3), rfl, rfl, rfl, rfl⟩ (MSub.cons (by first | (with_reducible repeat (first | exact Pick.here _ | apply Pick.there)); done | (repeat (first | exact Pick.here _ | apply Pick.there))) (MSub.nil _))
  · skip
    replace hp := cond_f hc1 hp
    refine W_skip ?_
    refine W_seq ?_
    refine W_region ?_
    refine L_move rfl rfl ?_
    refine L_move rfl rfl ?_
    refine L_lenT rfl rfl str9 ?_
    have ho := hp; clear hp; obtain ⟨y3, hy3, hp⟩ := bind_any ho; clear ho
    refine L_callM [blk b0_ _ _] _ rfl fn84 rfl (perm_cons (by first | (with_reducible repeat (first | exact Pick.here _ | apply Pick.there)); done | (repeat (first | exact Pick.here _ | apply Pick.there))) (perm_nil_left _)) (by exact fun w hw => s_l1Below_walk w b0_ (a0_1, a0_2, a0_3) (a1.size : Int) ((RdX.old h0_0) w hw) _ hy3) ?_
    rintro vy3 My3 ⟨y3x0, y3y0, hvy3, hdy3, rfl, hey3_0⟩
    subst hvy3
    subst hdy3
    obtain ⟨y3y0_1, y3y0_2, y3y0_3⟩ := y3y0
    obtain rfl : a0_1 = y3y0_1 := hey3_0.symm
    simp only [cells_pair, cells_int, cells_bool, cells_str, cells_TL, List.cons_append, List.nil_append]
    try dsimp only [dat_pair, dat_int, dat_bool, dat_str, dat_ar] at hp
    refine L_assign rfl rfl ?_
    refine L_nil ?_
    refine W_seq ?_
    refine W_seq ?_
    refine W_region ?_
    refine L_move rfl rfl ?_
    have ho := hp; clear hp; obtain ⟨y4, hy4, hp⟩ := bind_any ho; clear ho
    refine L_callM [blk b0_ _ _] _ rfl fn84 rfl (perm_cons (by first | (with_reducible repeat (first | exact Pick.here _ | apply Pick.there)); done | (repeat (first | exact Pick.here _ | apply Pick.there))) (perm_nil_left _)) (by exact fun w hw => s_l1Below_walk w b0_ (a0_1, y3y0_2, y3y0_3) 4 ((RdX.old h0_0) w hw) _ hy4) ?_
    rintro vy4 My4 ⟨y4x0, y4y0, hvy4, hdy4, rfl, hey4_0⟩
    subst hvy4
    subst hdy4
    obtain ⟨y4y0_1, y4y0_2, y4y0_3⟩ := y4y0
    obtain rfl : a0_1 = y4y0_1 := hey4_0.symm
    simp only [cells_pair, cells_int, cells_bool, cells_str, cells_TL, List.cons_append, List.nil_append]
    try dsimp only [dat_pair, dat_int, dat_bool, dat_str, dat_ar] at hp
    refine L_nil ?_
    refine W_block ?_
    refine W_seq ?_
    refine W_region ?_
    refine L_binV rfl rfl rfl bv_eql ?_
    refine L_assign rfl rfl ?_
    refine L_nil ?_
    refine W_weaken (l' := [(0, _), (1, _), (5, _), (16, _), (17, _)]) (Sub.cons rfl (Sub.cons rfl (Sub.cons rfl (Sub.cons rfl (Sub.cons rfl (Sub.nil _)))))) (MSub.refl _) ?_
    refine W_cond rfl (fun hc5 => ?_) (fun hc5 => ?_)
    · skip
      replace hp := cond_t hc5 hp
      refine W_seq ?_
      have ho := hp; clear hp; obtain ⟨y6, hy6, hp⟩ := bind_any ho; clear ho
      have ho := hp; clear hp; obtain ⟨y7, hy7, hp⟩ := bind_any ho; clear ho
      have ho := hp; clear hp; obtain ⟨y8, hy8, hp⟩ := bind_any ho; clear ho
      refine W_D0 [4] mix (by kernel_rfl) rfl ?_
      refine D_move GC.none (OpV.t rfl) ?_
      refine D_move GC.none (OpV.t rfl) ?_
      refine D_ssl GC.none (OpV.t rfl) optD.none (optD.some (OpV.t rfl)) str9 (fun hg => hy6) ?_
      refine D_move GC.none (OpV.t rfl) ?_
      refine D_move GC.none (OpV.t rfl) ?_
      refine D_bin GC.none (OpV.t rfl) OpV.c (fun hg => bv_add) ?_
      refine D_ssl GC.none (OpV.t rfl) (optD.some (OpV.t rfl)) optD.none str9 (fun hg => hy7) ?_
      refine D_bin GC.none (OpV.t rfl) (OpV.t rfl) (fun hg => (bv_saddP hy8)) ?_
      refine D_assign GC.none (OpV.t rfl) ?_
      refine DV_nil ?_
      refine Give_is rfl rfl ?_
      refine Give_drop rfl ?_
      refine Give_drop rfl ?_
      refine Give_drop rfl ?_
      refine Give_drop rfl ?_
      refine Give_drop rfl ?_
      refine Give_drop rfl ?_
      refine Give_drop rfl ?_
      refine Give_drop rfl ?_
      refine Give_nil ?_
      obtain rfl := Option.some.inj hp
      refine W_ret ?_
      refine res1 rfl (ResOK.tmp rfl) ⟨y8, (a0_1, y4y0_2, y4y0_3), rfl, rfl, rfl, rfl⟩ (MSub.cons (by first | (with_reducible repeat (first | exact Pick.here _ | apply Pick.there)); done | (repeat (first | exact Pick.here _ | apply Pick.there))) (MSub.nil _))
    · skip
      replace hp := cond_f hc5 hp
      refine W_seq ?_
      refine W_region ?_
      refine L_binV rfl rfl rfl bv_eql ?_
      refine L_assign rfl rfl ?_
      refine L_nil ?_
      refine W_weaken (l' := [(0, _), (1, _), (5, _), (16, _), (27, _)]) (Sub.cons rfl (Sub.cons rfl (Sub.cons rfl (Sub.cons rfl (Sub.cons rfl (Sub.nil _)))))) (MSub.refl _) ?_
      refine W_cond rfl (fun hc9 => ?_) (fun hc9 => ?_)
      · skip
        replace hp := cond_t hc9 hp
        refine W_seq ?_
        have ho := hp; clear hp; obtain ⟨y10, hy10, hp⟩ := bind_any ho; clear ho
        have ho := hp; clear hp; obtain ⟨y11, hy11, hp⟩ := bind_any ho; clear ho
        have ho := hp; clear hp; obtain ⟨y12, hy12, hp⟩ := bind_any ho; clear ho
        have ey12 := u8P_some hy12
        try simp only [ey12]
        have ho := hp; clear hp; obtain ⟨y13, hy13, hp⟩ := bind_any ho; clear ho
        have ho := hp; clear hp; obtain ⟨y15, hy15, hp⟩ := bind_any ho; clear ho
        have ho := hp; clear hp; obtain ⟨y16, hy16, hp⟩ := bind_any ho; clear ho
        have ho := hp; clear hp; obtain ⟨y17, hy17, hp⟩ := bind_any ho; clear ho
        refine W_DS (pre := [_, _, _, _, _, _, _, _, _, _, _, _, _, _]) (suf := []) [4, 33] [blk b0_ _ 141] _ (perm_cons (by first | (with_reducible repeat (first | exact Pick.here _ | apply Pick.there)); done | (repeat (first | exact Pick.here _ | apply Pick.there))) (perm_nil_left _)) mix (by kernel_rfl) (by kernel_rfl) rfl ?_
        refine D_move GC.none (OpV.t rfl) ?_
        refine D_move GC.none (OpV.t rfl) ?_
        refine D_ssl GC.none (OpV.t rfl) optD.none (optD.some (OpV.t rfl)) str9 (fun hg => hy10) ?_
        refine D_move GC.none (OpV.t rfl) ?_
        refine D_callM (fun v M => ∃ (x0 : Int) (y0 : T_l1Cur), v = .int .i64 x0 ∧ (GT.dat x0, GT.dat y0) = y11 ∧ M = [blk b0_ (GT.cells y0) 141] ∧ y0.1 = a0_1) [blk b0_ _ 141] (perm_cons (by first | (with_reducible repeat (first | exact Pick.here _ | apply Pick.there)); done | (repeat (first | exact Pick.here _ | apply Pick.there))) (perm_nil_left _)) fn119 (OpVs.cons (OpV.t rfl) (OpVs.nil)) (by exact fun w F hw hM => s_l1Byte_walk w b0_ (a0_1, y4y0_2, y4y0_3) ((RdX.old h0_0) w hw) _ hy11) ?_
        refine D_convInt GC.none (show OpV _ _ _ (.int .i64 y11.1) from ⟨_, rfl, fun u M h hc => by obtain ⟨x0, z0, hv, hd, _⟩ := h; subst hd; exact hv⟩) und5 (by rw [und3]; rfl) ?_
        refine D_bsN ([y12] : List UInt8) (xs := [(0, .tmp 34)]) (ps := [(0, .int .u8 (y12.toNat : Int))]) (OpVp.cons (by rw [← ey12]; exact (OpV.t rfl)) (OpVp.nil)) el59 rfl rfl rfl rfl rfl rfl rfl hy13 ?_
        refine D_toStrO (r := y13) (t := 35) rfl und59 und5 und9 (by kernel_rfl) ?_
        refine D_bin GC.none (OpV.t rfl) (OpV.t rfl) (fun hg => (bv_saddP hy15)) ?_
        refine D_move GC.none (OpV.t rfl) ?_
        refine D_move GC.none (OpV.t rfl) ?_
        refine D_ssl GC.none (OpV.t rfl) (optD.some (OpV.t rfl)) optD.none str9 (fun hg => hy16) ?_
        refine D_bin GC.none (OpV.t rfl) (OpV.t rfl) (fun hg => (bv_saddP hy17)) ?_
        refine D_assign GC.none (OpV.t rfl) ?_
        refine DV_nil ?_
        refine Give_is rfl rfl ?_
        refine Give_drop rfl ?_
        refine Give_drop rfl ?_
        refine Give_drop rfl ?_
        refine Give_drop rfl ?_
        refine Give_drop rfl ?_
        refine Give_drop rfl ?_
        refine Give_cons rfl ?_
        refine Give_drop rfl ?_
        refine Give_R rfl rfl ?_
        rintro vy11 My11 ⟨y11x0, y11y0, hvy11, hdy11, rfl, hey11_0⟩
        subst hvy11
        subst hdy11
        obtain ⟨y11y0_1, y11y0_2, y11y0_3⟩ := y11y0
        obtain rfl : a0_1 = y11y0_1 := hey11_0.symm
        refine Give_drop rfl ?_
        refine Give_drop rfl ?_
        refine Give_drop rfl ?_
        refine Give_drop rfl ?_
        refine Give_nil ?_
        simp only [cells_pair, cells_int, cells_bool, cells_str, cells_TL, List.cons_append, List.nil_append]
        try dsimp only [dat_pair, dat_int, dat_bool, dat_str, dat_ar] at hp
        refine L_nil ?_
        obtain rfl := Option.some.inj hp
        refine W_ret ?_
        refine res1 rfl (ResOK.tmp rfl) ⟨y17, (a0_1, y11y0_2, y11y0_3), rfl, rfl, rfl, rfl⟩ (MSub.cons (by first | (with_reducible repeat (first | exact Pick.here _ | apply Pick.there)); done | (repeat (first | exact Pick.here _ | apply Pick.there))) (MSub.nil _))
      · skip
        replace hp := cond_f hc9 hp
        refine W_seq ?_
        refine W_region ?_
        refine L_binV rfl rfl rfl bv_eql ?_
        refine L_assign rfl rfl ?_
        refine L_nil ?_
        refine W_weaken (l' := [(0, _), (1, _), (5, _), (42, _)]) (Sub.cons rfl (Sub.cons rfl (Sub.cons rfl (Sub.cons rfl (Sub.nil _))))) (MSub.refl _) ?_
        refine W_cond rfl (fun hc18 => ?_) (fun hc18 => ?_)
        · skip
          replace hp := cond_t hc18 hp
          refine W_seq ?_
          refine W_region ?_
          refine L_move rfl rfl ?_
          refine L_move rfl rfl ?_
          have ho := hp; clear hp; obtain ⟨y19, hy19, hp⟩ := bind_any ho; clear ho
          refine L_ssl rfl rfl rfl rfl str9 hy19 ?_
          refine L_assign rfl rfl ?_
          refine L_nil ?_
          obtain rfl := Option.some.inj hp
          refine W_ret ?_
          refine res1 rfl (ResOK.tmp rfl) ⟨y19, (a0_1, y4y0_2, y4y0_3), rfl, rfl, rfl, rfl⟩ (MSub.cons (by first | (with_reducible repeat (first | exact Pick.here _ | apply Pick.there)); done | (repeat (first | exact Pick.here _ | apply Pick.there))) (MSub.nil _))
        · skip
          replace hp := cond_f hc18 hp
          refine W_skip ?_
          refine W_seq ?_
          have ho := hp; clear hp; obtain ⟨y20, hy20, hp⟩ := bind_any ho; clear ho
          have ho := hp; clear hp; obtain ⟨y21, hy21, hp⟩ := bind_any ho; clear ho
          have ho := hp; clear hp; obtain ⟨y22, hy22, hp⟩ := bind_any ho; clear ho
          have ho := hp; clear hp; obtain ⟨y23, hy23, hp⟩ := bind_any ho; clear ho
          have ey23 := u8P_some hy23
          try simp only [ey23]
          have ho := hp; clear hp; obtain ⟨y24, hy24, hp⟩ := bind_any ho; clear ho
          have ho := hp; clear hp; obtain ⟨y26, hy26, hp⟩ := bind_any ho; clear ho
          have ho := hp; clear hp; obtain ⟨y27, hy27, hp⟩ := bind_any ho; clear ho
          have ho := hp; clear hp; obtain ⟨y28, hy28, hp⟩ := bind_any ho; clear ho
          refine W_DS (pre := [_, _, _, _, _, _, _, _, _, _, _, _, _, _, _, _, _, _, _, _, _]) (suf := []) [4, 55] [blk b0_ _ 141] _ (perm_cons (by first | (with_reducible repeat (first | exact Pick.here _ | apply Pick.there)); done | (repeat (first | exact Pick.here _ | apply Pick.there))) (perm_nil_left _)) mix (by kernel_rfl) (by kernel_rfl) rfl ?_
          refine D_move GC.none (OpV.t rfl) ?_
          refine D_move GC.none (OpV.t rfl) ?_
          refine D_ssl GC.none (OpV.t rfl) optD.none (optD.some (OpV.t rfl)) str9 (fun hg => hy20) ?_
          refine D_move GC.none (OpV.t rfl) ?_
          refine D_move GC.none (OpV.t rfl) ?_
          refine D_idxS GC.none (OpV.t rfl) (OpV.t rfl) str9 (fun hg => hy21) ?_
          refine D_convInt GC.none (OpV.t rfl) und3 (by rw [und5]; rfl) ?_
          refine D_move GC.none (OpV.t rfl) ?_
          refine D_callM (fun v M => ∃ (x0 : Int) (y0 : T_l1Cur), v = .int .i64 x0 ∧ (GT.dat x0, GT.dat y0) = y22 ∧ M = [blk b0_ (GT.cells y0) 141] ∧ y0.1 = a0_1) [blk b0_ _ 141] (perm_cons (by first | (with_reducible repeat (first | exact Pick.here _ | apply Pick.there)); done | (repeat (first | exact Pick.here _ | apply Pick.there))) (perm_nil_left _)) fn84 (OpVs.cons (OpV.t rfl) (OpVs.cons OpV.c (OpVs.nil))) (by exact fun w F hw hM => s_l1Below_walk w b0_ (a0_1, y4y0_2, y4y0_3) 255 ((RdX.old h0_0) w hw) _ hy22) ?_
          refine D_bin GC.none OpV.c (show OpV _ _ _ (.int .i64 y22.1) from ⟨_, rfl, fun u M h hc => by obtain ⟨x0, z0, hv, hd, _⟩ := h; subst hd; exact hv⟩) (fun hg => bv_add) ?_
          refine D_bin GC.none (OpV.t rfl) (OpV.t rfl) (fun hg => bv_xor) ?_
          refine D_convInt GC.none (OpV.t rfl) und5 (by rw [und3]; rfl) ?_
          refine D_bsN ([y23] : List UInt8) (xs := [(0, .tmp 58)]) (ps := [(0, .int .u8 (y23.toNat : Int))]) (OpVp.cons (by rw [← ey23]; exact (OpV.t rfl)) (OpVp.nil)) el59 rfl rfl rfl rfl rfl rfl rfl hy24 ?_
          refine D_toStrO (r := y24) (t := 59) rfl und59 und5 und9 (by kernel_rfl) ?_
          refine D_bin GC.none (OpV.t rfl) (OpV.t rfl) (fun hg => (bv_saddP hy26)) ?_
          refine D_move GC.none (OpV.t rfl) ?_
          refine D_move GC.none (OpV.t rfl) ?_
          refine D_bin GC.none (OpV.t rfl) OpV.c (fun hg => bv_add) ?_
          refine D_ssl GC.none (OpV.t rfl) (optD.some (OpV.t rfl)) optD.none str9 (fun hg => hy27) ?_
          refine D_bin GC.none (OpV.t rfl) (OpV.t rfl) (fun hg => (bv_saddP hy28)) ?_
          refine D_assign GC.none (OpV.t rfl) ?_
          refine DV_nil ?_
          refine Give_is rfl rfl ?_
          refine Give_drop rfl ?_
          refine Give_drop rfl ?_
          refine Give_drop rfl ?_
          refine Give_drop rfl ?_
          refine Give_drop rfl ?_
          refine Give_drop rfl ?_
          refine Give_drop rfl ?_
          refine Give_cons rfl ?_
          refine Give_drop rfl ?_
          refine Give_drop rfl ?_
          refine Give_drop rfl ?_
          refine Give_R rfl rfl ?_
          rintro vy22 My22 ⟨y22x0, y22y0, hvy22, hdy22, rfl, hey22_0⟩
          subst hvy22
          subst hdy22
          obtain ⟨y22y0_1, y22y0_2, y22y0_3⟩ := y22y0
          obtain rfl : a0_1 = y22y0_1 := hey22_0.symm
          refine Give_drop rfl ?_
          refine Give_drop rfl ?_
          refine Give_drop rfl ?_
          refine Give_drop rfl ?_
          refine Give_drop rfl ?_
          refine Give_drop rfl ?_
          refine Give_drop rfl ?_
          refine Give_drop rfl ?_
          refine Give_nil ?_
          simp only [cells_pair, cells_int, cells_bool, cells_str, cells_TL, List.cons_append, List.nil_append]
          try dsimp only [dat_pair, dat_int, dat_bool, dat_str, dat_ar] at hp
          refine L_nil ?_
          obtain rfl := Option.some.inj hp
          refine W_ret ?_
          refine res1 rfl (ResOK.tmp rfl) ⟨y28, (a0_1, y22y0_2, y22y0_3), rfl, rfl, rfl, rfl⟩ (MSub.cons (by first | (with_reducible repeat (first | exact Pick.here _ | apply Pick.there)); done | (repeat (first | exact Pick.here _ | apply Pick.there))) (MSub.nil _))

noncomputable def s_DrawCutData (a0 : List UInt8) : Option ByteArray :=
  Option.bind (s_l1New a0) (fun y1 => Option.bind (s_l1Text (y1.1, y1.2.1, y1.2.2) 60) (fun y2 => Option.bind (s_l1Once (y2.2.1, y2.2.2.1, y2.2.2.2) 30) (fun y3 => cond y3.1 (Option.bind (s_l1Below (y3.2.1, y3.2.2.1, y3.2.2.2) 2) (fun y5 => Option.bind (mkP 1 (IntKind.wrap .i64 (400 + y5.1)) (0 : UInt8)) (fun y6 => some (strP y6)))) (some y2.1))))

theorem s_DrawCutData_walk (w : World) (a0 : TL UInt8) (h0 : GT.rd w [] a0) (r : ByteArray) (hp : s_DrawCutData (GT.dat a0) = some r) : Spec Tryd.prog 46 [(TL.hdr a0)].toArray w [] (IsV (.string r)) := by
  refine Spec.intro Tryd.func46 rfl Tryd.ntmps46 rfl ?_
  unfold s_DrawCutData at hp
  try dsimp only [dat_pair, dat_int, dat_bool, dat_str, dat_ar] at hp
  refine W_seq ?_
  refine W_region ?_
  refine L_assign rfl rfl ?_
  refine L_nil ?_
  refine W_seq ?_
  refine W_region ?_
  refine L_move rfl rfl ?_
  have ho := hp; clear hp; obtain ⟨y1, hy1, hp⟩ := bind_any ho; clear ho
  refine L_callR rfl fn81 rfl (by exact fun w hw => s_l1New_walk w a0 (RdT.now (RdT.old h0) hw) _ hy1) ?_
  rintro vy1 My1 ⟨bky1, y1x, hvy1, hdy1, rfl, hey1_0⟩
  subst hvy1
  subst hdy1
  obtain ⟨y1x_1, y1x_2, y1x_3⟩ := y1x
  obtain rfl : a0 = y1x_1 := hey1_0.symm
  simp only [cells_pair, cells_int, cells_bool, cells_str, cells_TL, List.cons_append, List.nil_append]
  try dsimp only [dat_pair, dat_int, dat_bool, dat_str, dat_ar] at hp
  refine L_assign rfl rfl ?_
  refine L_nil ?_
  refine W_seq ?_
  refine W_region ?_
  refine L_move rfl rfl ?_
  have ho := hp; clear hp; obtain ⟨y2, hy2, hp⟩ := bind_any ho; clear ho
  refine L_callM [blk bky1 _ _] _ rfl fn94 rfl (perm_cons (by first | (with_reducible repeat (first | exact Pick.here _ | apply Pick.there)); done | (repeat (first | exact Pick.here _ | apply Pick.there))) (perm_nil_left _)) (by exact fun w hw => s_l1Text_walk w bky1 (a0, y1x_2, y1x_3) 60 ((RdX.old h0) w hw) _ hy2) ?_
  rintro vy2 My2 ⟨y2x0, y2y0, hvy2, hdy2, rfl, hey2_0⟩
  subst hvy2
  subst hdy2
  obtain ⟨y2y0_1, y2y0_2, y2y0_3⟩ := y2y0
  obtain rfl : a0 = y2y0_1 := hey2_0.symm
  simp only [cells_pair, cells_int, cells_bool, cells_str, cells_TL, List.cons_append, List.nil_append]
  try dsimp only [dat_pair, dat_int, dat_bool, dat_str, dat_ar] at hp
  refine L_assign rfl rfl ?_
  refine L_nil ?_
  refine W_seq ?_
  refine W_seq ?_
  refine W_region ?_
  refine L_move rfl rfl ?_
  have ho := hp; clear hp; obtain ⟨y3, hy3, hp⟩ := bind_any ho; clear ho
  refine L_callM [blk bky1 _ _] _ rfl fn83 rfl (perm_cons (by first | (with_reducible repeat (first | exact Pick.here _ | apply Pick.there)); done | (repeat (first | exact Pick.here _ | apply Pick.there))) (perm_nil_left _)) (by exact fun w hw => s_l1Once_walk w bky1 (a0, y2y0_2, y2y0_3) 30 ((RdX.old h0) w hw) _ hy3) ?_
  rintro vy3 My3 ⟨y3x0, y3y0, hvy3, hdy3, rfl, hey3_0⟩
  subst hvy3
  subst hdy3
  obtain ⟨y3y0_1, y3y0_2, y3y0_3⟩ := y3y0
  obtain rfl : a0 = y3y0_1 := hey3_0.symm
  simp only [cells_pair, cells_int, cells_bool, cells_str, cells_TL, List.cons_append, List.nil_append]
  try dsimp only [dat_pair, dat_int, dat_bool, dat_str, dat_ar] at hp
  refine L_nil ?_
  refine W_weaken (l' := [(3, _), (4, _), (10, _)]) (Sub.cons rfl (Sub.cons rfl (Sub.cons rfl (Sub.nil _)))) (MSub.refl _) ?_
  refine W_cond rfl (fun hc4 => ?_) (fun hc4 => ?_)
  · skip
    replace hp := cond_t hc4 hp
    refine W_seq ?_
    refine W_region ?_
    refine L_move rfl rfl ?_
    have ho := hp; clear hp; obtain ⟨y5, hy5, hp⟩ := bind_any ho; clear ho
    refine L_callM [blk bky1 _ _] _ rfl fn84 rfl (perm_cons (by first | (with_reducible repeat (first | exact Pick.here _ | apply Pick.there)); done | (repeat (first | exact Pick.here _ | apply Pick.there))) (perm_nil_left _)) (by exact fun w hw => s_l1Below_walk w bky1 (a0, y3y0_2, y3y0_3) 2 ((RdX.old h0) w hw) _ hy5) ?_
    rintro vy5 My5 ⟨y5x0, y5y0, hvy5, hdy5, rfl, hey5_0⟩
    subst hvy5
    subst hdy5
    obtain ⟨y5y0_1, y5y0_2, y5y0_3⟩ := y5y0
    obtain rfl : a0 = y5y0_1 := hey5_0.symm
    simp only [cells_pair, cells_int, cells_bool, cells_str, cells_TL, List.cons_append, List.nil_append]
    try dsimp only [dat_pair, dat_int, dat_bool, dat_str, dat_ar] at hp
    refine L_binV rfl rfl rfl bv_add ?_
    have ho := hp; clear hp; obtain ⟨y6, hy6, hp⟩ := bind_any ho; clear ho
    refine L_mkP (0 : UInt8) rfl rfl rfl el59 rfl rfl (FlatT.flat _) hy6 (fun X7 hdX7 => ?_)
    subst hdX7
    refine L_toStr (X := X7) rfl rfl und59 und5 und9 (RdT.tree (by first | (with_reducible repeat (first | exact List.Mem.head _ | apply List.Mem.tail)); done | (repeat (first | exact List.Mem.head _ | apply List.Mem.tail)))) ?_
    refine L_assign rfl rfl ?_
    refine L_nil ?_
    obtain rfl := Option.some.inj hp
    refine W_ret ?_
    refine res1 rfl (ResOK.tmp rfl) ⟨rfl, rfl⟩ (MSub.nil _)
  · skip
    replace hp := cond_f hc4 hp
    refine W_skip ?_
    refine W_seq ?_
    refine W_region ?_
    refine L_move rfl rfl ?_
    refine L_assign rfl rfl ?_
    refine L_nil ?_
    obtain rfl := Option.some.inj hp
    refine W_ret ?_
    refine res1 rfl (ResOK.tmp rfl) ⟨rfl, rfl⟩ (MSub.nil _)

noncomputable def s_DrawShared (a0 : List UInt8) : Option (ByteArray × ByteArray) :=
  Option.bind (s_l1New a0) (fun y1 => Option.bind (s_l1Text (y1.1, y1.2.1, y1.2.2) 50) (fun y2 => Option.bind (s_l1Once (y2.2.1, y2.2.2.1, y2.2.2.2) 3) (fun y3 => cond y3.1 (Option.bind (s_l1Text (y3.2.1, y3.2.2.1, y3.2.2.2) 50) (fun y5 => some (y2.1, y5.1))) (Option.bind (s_l1Spoil (y3.2.1, y3.2.2.1, y3.2.2.2) y2.1) (fun y6 => some (y2.1, y6.1))))))

theorem s_DrawShared_walk (w : World) (a0 : TL UInt8) (h0 : GT.rd w [] a0) (r : ByteArray × ByteArray) (hp : s_DrawShared (GT.dat a0) = some r) : Spec Tryd.prog 51 [(TL.hdr a0)].toArray w [] (fun v M => ∃ (x0 : ByteArray) (x1 : ByteArray), v = .tuple #[.string x0, .string x1] ∧ (GT.dat x0, GT.dat x1) = r ∧ M = []) := by
  refine Spec.intro Tryd.func51 rfl Tryd.ntmps51 rfl ?_
  unfold s_DrawShared at hp
  try dsimp only [dat_pair, dat_int, dat_bool, dat_str, dat_ar] at hp
  refine W_seq ?_
  refine W_region ?_
  refine L_assign rfl rfl ?_
  refine L_assign rfl rfl ?_
  refine L_nil ?_
  refine W_seq ?_
  refine W_region ?_
  refine L_move rfl rfl ?_
  have ho := hp; clear hp; obtain ⟨y1, hy1, hp⟩ := bind_any ho; clear ho
  refine L_callR rfl fn81 rfl (by exact fun w hw => s_l1New_walk w a0 (RdT.now (RdT.old h0) hw) _ hy1) ?_
  rintro vy1 My1 ⟨bky1, y1x, hvy1, hdy1, rfl, hey1_0⟩
  subst hvy1
  subst hdy1
  obtain ⟨y1x_1, y1x_2, y1x_3⟩ := y1x
  obtain rfl : a0 = y1x_1 := hey1_0.symm
  simp only [cells_pair, cells_int, cells_bool, cells_str, cells_TL, List.cons_append, List.nil_append]
  try dsimp only [dat_pair, dat_int, dat_bool, dat_str, dat_ar] at hp
  refine L_assign rfl rfl ?_
  refine L_nil ?_
  refine W_seq ?_
  refine W_region ?_
  refine L_move rfl rfl ?_
  have ho := hp; clear hp; obtain ⟨y2, hy2, hp⟩ := bind_any ho; clear ho
  refine L_callM [blk bky1 _ _] _ rfl fn94 rfl (perm_cons (by first | (with_reducible repeat (first | exact Pick.here _ | apply Pick.there)); done | (repeat (first | exact Pick.here _ | apply Pick.there))) (perm_nil_left _)) (by exact fun w hw => s_l1Text_walk w bky1 (a0, y1x_2, y1x_3) 50 ((RdX.old h0) w hw) _ hy2) ?_
  rintro vy2 My2 ⟨y2x0, y2y0, hvy2, hdy2, rfl, hey2_0⟩
  subst hvy2
  subst hdy2
  obtain ⟨y2y0_1, y2y0_2, y2y0_3⟩ := y2y0
  obtain rfl : a0 = y2y0_1 := hey2_0.symm
  simp only [cells_pair, cells_int, cells_bool, cells_str, cells_TL, List.cons_append, List.nil_append]
  try dsimp only [dat_pair, dat_int, dat_bool, dat_str, dat_ar] at hp
  refine L_assign rfl rfl ?_
  refine L_nil ?_
  refine W_seq ?_
  refine W_seq ?_
  refine W_region ?_
  refine L_move rfl rfl ?_
  have ho := hp; clear hp; obtain ⟨y3, hy3, hp⟩ := bind_any ho; clear ho
  refine L_callM [blk bky1 _ _] _ rfl fn83 rfl (perm_cons (by first | (with_reducible repeat (first | exact Pick.here _ | apply Pick.there)); done | (repeat (first | exact Pick.here _ | apply Pick.there))) (perm_nil_left _)) (by exact fun w hw => s_l1Once_walk w bky1 (a0, y2y0_2, y2y0_3) 3 ((RdX.old h0) w hw) _ hy3) ?_
  rintro vy3 My3 ⟨y3x0, y3y0, hvy3, hdy3, rfl, hey3_0⟩
  subst hvy3
  subst hdy3
  obtain ⟨y3y0_1, y3y0_2, y3y0_3⟩ := y3y0
  obtain rfl : a0 = y3y0_1 := hey3_0.symm
  simp only [cells_pair, cells_int, cells_bool, cells_str, cells_TL, List.cons_append, List.nil_append]
  try dsimp only [dat_pair, dat_int, dat_bool, dat_str, dat_ar] at hp
  refine L_nil ?_
  refine W_weaken (l' := [(4, _), (5, _), (11, _)]) (Sub.cons rfl (Sub.cons rfl (Sub.cons rfl (Sub.nil _)))) (MSub.refl _) ?_
  refine W_cond rfl (fun hc4 => ?_) (fun hc4 => ?_)
  · skip
    replace hp := cond_t hc4 hp
    refine W_seq ?_
    refine W_region ?_
    refine L_move rfl rfl ?_
    refine L_move rfl rfl ?_
    have ho := hp; clear hp; obtain ⟨y5, hy5, hp⟩ := bind_any ho; clear ho
    refine L_callM [blk bky1 _ _] _ rfl fn94 rfl (perm_cons (by first | (with_reducible repeat (first | exact Pick.here _ | apply Pick.there)); done | (repeat (first | exact Pick.here _ | apply Pick.there))) (perm_nil_left _)) (by exact fun w hw => s_l1Text_walk w bky1 (a0, y3y0_2, y3y0_3) 50 ((RdX.old h0) w hw) _ hy5) ?_
    rintro vy5 My5 ⟨y5x0, y5y0, hvy5, hdy5, rfl, hey5_0⟩
    subst hvy5
    subst hdy5
    obtain ⟨y5y0_1, y5y0_2, y5y0_3⟩ := y5y0
    obtain rfl : a0 = y5y0_1 := hey5_0.symm
    simp only [cells_pair, cells_int, cells_bool, cells_str, cells_TL, List.cons_append, List.nil_append]
    try dsimp only [dat_pair, dat_int, dat_bool, dat_str, dat_ar] at hp
    refine L_assign rfl rfl ?_
    refine L_assign rfl rfl ?_
    refine L_nil ?_
    obtain rfl := Option.some.inj hp
    refine W_ret ?_
    refine res2 rfl (ResOK.tmp rfl) (ResOK.tmp rfl) ⟨y2x0, y5x0, rfl, rfl, rfl⟩ (MSub.nil _)
  · skip
    replace hp := cond_f hc4 hp
    refine W_skip ?_
    refine W_seq ?_
    refine W_region ?_
    refine L_move rfl rfl ?_
    refine L_move rfl rfl ?_
    refine L_move rfl rfl ?_
    have ho := hp; clear hp; obtain ⟨y6, hy6, hp⟩ := bind_any ho; clear ho
    refine L_callM [blk bky1 _ _] _ rfl fn95 rfl (perm_cons (by first | (with_reducible repeat (first | exact Pick.here _ | apply Pick.there)); done | (repeat (first | exact Pick.here _ | apply Pick.there))) (perm_nil_left _)) (by exact fun w hw => s_l1Spoil_walk w bky1 (a0, y3y0_2, y3y0_3) y2x0 ((RdX.old h0) w hw) _ hy6) ?_
    rintro vy6 My6 ⟨y6x0, y6y0, hvy6, hdy6, rfl, hey6_0⟩
    subst hvy6
    subst hdy6
    obtain ⟨y6y0_1, y6y0_2, y6y0_3⟩ := y6y0
    obtain rfl : a0 = y6y0_1 := hey6_0.symm
    simp only [cells_pair, cells_int, cells_bool, cells_str, cells_TL, List.cons_append, List.nil_append]
    try dsimp only [dat_pair, dat_int, dat_bool, dat_str, dat_ar] at hp
    refine L_assign rfl rfl ?_
    refine L_assign rfl rfl ?_
    refine L_nil ?_
    obtain rfl := Option.some.inj hp
    refine W_ret ?_
    refine res2 rfl (ResOK.tmp rfl) (ResOK.tmp rfl) ⟨y2x0, y6x0, rfl, rfl, rfl⟩ (MSub.nil _)

noncomputable def i_CutData (a0 : ByteArray) : Option (List ByteArray) :=
  cond (decide (400 < (a0.size : Int))) (some ([] : List ByteArray)) (Option.bind (some ([] : List ByteArray)) (fun y3 => whileP (fun s4 : (List ByteArray) × Int × Int => cond (decide (s4.2.2 < (a0.size : Int))) (gb ((!(decide (IntKind.wrap .i64 (IntKind.wrap .i64 (s4.2.2 + 1) - s4.2.1) = 12))) && (decide (3 ≤ IntKind.wrap .i64 (IntKind.wrap .i64 (s4.2.2 + 1) - s4.2.1)))) (sidx a0 s4.2.2) (fun y6 => cond ((decide (IntKind.wrap .i64 (IntKind.wrap .i64 (s4.2.2 + 1) - s4.2.1) = 12)) || ((decide (3 ≤ IntKind.wrap .i64 (IntKind.wrap .i64 (s4.2.2 + 1) - s4.2.1))) && (decide ((y6).tmod 8 = 0)))) (Option.bind (sslP a0 s4.2.1 (IntKind.wrap .i64 (s4.2.2 + 1))) (fun y8 => Option.bind (appP s4.1 [y8]) (fun y10 => some (.inl ((y10, IntKind.wrap .i64 (s4.2.2 + 1), IntKind.wrap .i64 (s4.2.2 + 1))))))) (some (.inl ((s4.1, s4.2.1, IntKind.wrap .i64 (s4.2.2 + 1))))))) (Option.map .inr (cond (decide (s4.2.1 < (a0.size : Int))) (Option.bind (sslP a0 s4.2.1 (a0.size : Int)) (fun y13 => Option.bind (appP s4.1 [y13]) (fun y15 => some y15))) (some s4.1)))) (y3, 0, 0)))

theorem i_CutData_walk (w : World) (a0 : ByteArray)  (r : (List ByteArray)) (hp : i_CutData a0 = some r) : Spec Tryd.prog 47 [.string a0].toArray w [] (fun v M => ∃ (x0 : TL ByteArray), v = (TL.hdr x0) ∧ GT.dat x0 = r ∧ M = [treeH x0]) := by
  refine Spec.intro Tryd.func47 rfl Tryd.ntmps47 rfl ?_
  unfold i_CutData at hp
  try dsimp only [dat_pair, dat_int, dat_bool, dat_str, dat_ar] at hp
  refine W_seq ?_
  refine W_region ?_
  refine L_assign (v := (TL.hdr (TL.nil ByteArray 0))) rfl rfl ?_
  refine L_nil ?_
  refine W_seq ?_
  refine W_seq ?_
  refine W_region ?_
  refine L_move rfl rfl ?_
  refine L_lenT rfl rfl str9 ?_
  refine L_binV rfl rfl rfl bv_gtr ?_
  refine L_nil ?_
  refine W_weaken (l' := [(0, _), (9, _)]) (Sub.cons rfl (Sub.cons rfl (Sub.nil _))) (MSub.refl _) ?_
  refine W_cond rfl (fun hc1 => ?_) (fun hc1 => ?_)
  · skip
    replace hp := cond_t hc1 hp
    refine W_seq ?_
    refine W_region ?_
    refine L_assign (v := (TL.hdr (TL.nil ByteArray 0))) rfl rfl ?_
    refine L_nil ?_
    obtain rfl := Option.some.inj hp
    refine W_conv (M' := treeH (TL.nil ByteArray 0) :: _) (fun w h => addNilT (τ := ByteArray) 0 h) ?_
    refine W_ret ?_
    refine res1 rfl (ResOK.tmp rfl) ⟨(TL.nil ByteArray 0), rfl, rfl, rfl⟩ (MSub.cons (by first | (with_reducible repeat (first | exact Pick.here _ | apply Pick.there)); done | (repeat (first | exact Pick.here _ | apply Pick.there))) (MSub.nil _))
  · skip
    replace hp := cond_f hc1 hp
    refine W_skip ?_
    refine W_seq ?_
    refine W_region ?_
    have ho := hp; clear hp; obtain ⟨y3, hy3, hp⟩ := bind_any ho; clear ho
    refine L_mk0 ByteArray rfl el73 (fun X2 hdX2 => ?_)
    obtain rfl : GT.dat X2 = y3 := hdX2.trans (Option.some.inj hy3)
    clear hy3 hdX2
    refine L_assign rfl rfl ?_
    refine L_nil ?_
    refine W_seq ?_
    refine W_region ?_
    refine L_assign rfl rfl ?_
    refine L_nil ?_
    refine W_seq ?_
    refine W_seq ?_
    refine W_region ?_
    refine L_assign rfl rfl ?_
    refine L_nil ?_
    refine W_block ?_
    refine W_while (σ := (TL ByteArray) × Int × Int) GT.dat (fun ((v4_0, v4_1, v4_2) : (TL ByteArray) × Int × Int) => [(3, (TL.hdr v4_0)), (4, .int .i64 v4_1), (5, .int .i64 v4_2)]) (fun ((v4_0, v4_1, v4_2) : (TL ByteArray) × Int × Int) => [treeH v4_0]) [(0, _)] [] (X2, 0, 0) hp (Sub.cons rfl (Sub.cons rfl (Sub.cons rfl (Sub.cons rfl (Sub.nil _))))) (MSub.cons (by first | (with_reducible repeat (first | exact Pick.here _ | apply Pick.there)); done | (repeat (first | exact Pick.here _ | apply Pick.there))) (MSub.nil _)) ?_
    clear hp
    rintro ⟨v4_0, v4_1, v4_2⟩ x4 hp hx4
    try dsimp only [dat_pair, dat_int, dat_bool, dat_str, dat_ar] at hp
    refine W_weaken (l' := [(0, _), (3, _), (4, _), (5, _)]) (Sub.cons rfl (Sub.cons rfl (Sub.cons rfl (Sub.cons rfl (Sub.nil _))))) (M' := [_]) (MSub.cons (by first | (with_reducible repeat (first | exact Pick.here _ | apply Pick.there)); done | (repeat (first | exact Pick.here _ | apply Pick.there))) (MSub.nil _)) ?_
    refine W_seq ?_
    refine W_seq ?_
    refine W_region ?_
    refine L_move rfl rfl ?_
    refine L_move rfl rfl ?_
    refine L_lenT rfl rfl str9 ?_
    refine L_binV rfl rfl rfl bv_lss ?_
    refine L_nil ?_
    refine W_weaken (l' := [(0, _), (3, _), (4, _), (5, _), (14, _)]) (Sub.cons rfl (Sub.cons rfl (Sub.cons rfl (Sub.cons rfl (Sub.cons rfl (Sub.nil _)))))) (MSub.refl _) ?_
    refine W_cond rfl (fun hc5 => ?_) (fun hc5 => ?_)
    · skip
      replace hp := cond_t hc5 hp
      refine W_skip ?_
      refine W_seq ?_
      refine W_block ?_
      refine W_seq ?_
      refine W_region ?_
      refine L_move rfl rfl ?_
      refine L_binV rfl rfl rfl bv_add ?_
      refine L_move rfl rfl ?_
      refine L_binV rfl rfl rfl bv_sub ?_
      refine L_assign rfl rfl ?_
      refine L_nil ?_
      refine W_seq ?_
      have ho := hp; clear hp; obtain ⟨y6, hy6, hp⟩ := gb_any ho; clear ho
      refine W_D0 [33] mix (by kernel_rfl) rfl ?_
      refine D_move GC.none (OpV.t rfl) ?_
      refine D_bin GC.none (OpV.t rfl) OpV.c (fun hg => bv_eql) ?_
      refine D_move GC.none (OpV.t rfl) ?_
      refine D_move (GC.some rfl rfl) (OpV.t rfl) ?_
      refine D_bin (GC.some rfl rfl) (OpV.s rfl) OpV.c (fun hg => bv_geq) ?_
      refine D_move (GC.some rfl rfl) (OpV.s rfl) ?_
      refine D_move (GC.some rfl rfl) (OpV.t rfl) ?_
      refine D_move (GC.some rfl rfl) (OpV.t rfl) ?_
      refine D_idxS (GC.some rfl rfl) (OpV.s rfl) (OpV.s rfl) str9 (fun hg => (hy6 (gand (gnot hg.1.2) hg.2))) ?_
      refine D_bin (GC.some rfl rfl) (OpV.s rfl) OpV.c (fun hg => (bv_rem (by decide))) ?_
      refine D_bin (GC.some rfl rfl) (OpV.s rfl) OpV.c (fun hg => bv_eql) ?_
      refine D_and (cy := _) (GC.some rfl rfl) (OpV.s rfl) (OpV.s rfl) (fun h hb => ⟨h, hb⟩) ?_
      refine D_or (cy := _) GC.none (OpV.t rfl) (OpV.s rfl) (fun h hb => ⟨h, hb⟩) ?_
      refine DV_nil ?_
      refine Give_is rfl rfl ?_
      refine Give_drop rfl ?_
      refine Give_drop rfl ?_
      refine Give_drop rfl ?_
      refine Give_drop rfl ?_
      refine Give_drop rfl ?_
      refine Give_drop rfl ?_
      refine Give_drop rfl ?_
      refine Give_drop rfl ?_
      refine Give_drop rfl ?_
      refine Give_drop rfl ?_
      refine Give_drop rfl ?_
      refine Give_drop rfl ?_
      refine Give_nil ?_
      refine W_weaken (l' := [(0, _), (3, _), (4, _), (5, _), (33, _)]) (Sub.cons rfl (Sub.cons rfl (Sub.cons rfl (Sub.cons rfl (Sub.cons rfl (Sub.nil _)))))) (MSub.refl _) ?_
      refine W_cond rfl (fun hc7 => ?_) (fun hc7 => ?_)
      · skip
        replace hp := cond_t hc7 hp
        refine W_seq ?_
        refine W_region ?_
        refine L_move rfl rfl ?_
        refine L_move rfl rfl ?_
        refine L_move rfl rfl ?_
        refine L_move rfl rfl ?_
        refine L_binV rfl rfl rfl bv_add ?_
        have ho := hp; clear hp; obtain ⟨y8, hy8, hp⟩ := bind_any ho; clear ho
        refine L_ssl rfl rfl rfl rfl str9 hy8 ?_
        refine L_buildSlice1 rfl rfl el73 rfl (by decide) (by decide) rfl (fun bb40 => ?_)
        have ho := hp; clear hp; obtain ⟨y10, hy10, hp⟩ := bind_any ho; clear ho
        refine L_app1F (X := v4_0) (y8 : ByteArray) rfl rfl rfl el73 rfl rfl (by first | (with_reducible repeat (first | exact Pick.here _ | apply Pick.there)); done | (repeat (first | exact Pick.here _ | apply Pick.there))) (by first | (with_reducible repeat (first | exact List.Mem.head _ | apply List.Mem.tail)); done | (repeat (first | exact List.Mem.head _ | apply List.Mem.tail)))  hy10 (by decide) (fun X9 hdX9 => ?_)
        subst hdX9
        refine L_assign rfl rfl ?_
        refine L_nil ?_
        refine W_region ?_
        refine L_move rfl rfl ?_
        refine L_binV rfl rfl rfl bv_add ?_
        refine L_assign rfl rfl ?_
        refine L_nil ?_
        refine W_region ?_
        refine L_move rfl rfl ?_
        refine L_binV rfl rfl rfl bv_add ?_
        refine L_assign rfl rfl ?_
        refine L_nil ?_
        exact ⟨(X9, IntKind.wrap .i64 (v4_2 + 1), IntKind.wrap .i64 (v4_2 + 1)), (Sub.cons rfl (Sub.cons rfl (Sub.cons rfl (Sub.cons rfl (Sub.nil _))))), (Arr.sub (MSub.cons (by first | (with_reducible repeat (first | exact Pick.here _ | apply Pick.there)); done | (repeat (first | exact Pick.here _ | apply Pick.there))) (MSub.nil _))), some_eq hp⟩
      · skip
        replace hp := cond_f hc7 hp
        refine W_skip ?_
        refine W_region ?_
        refine L_move rfl rfl ?_
        refine L_binV rfl rfl rfl bv_add ?_
        refine L_assign rfl rfl ?_
        refine L_nil ?_
        exact ⟨(v4_0, v4_1, IntKind.wrap .i64 (v4_2 + 1)), (Sub.cons rfl (Sub.cons rfl (Sub.cons rfl (Sub.cons rfl (Sub.nil _))))), (Arr.sub (MSub.cons (by first | (with_reducible repeat (first | exact Pick.here _ | apply Pick.there)); done | (repeat (first | exact Pick.here _ | apply Pick.there))) (MSub.nil _))), some_eq hp⟩
    · skip
      replace hp := cond_f hc5 hp
      refine W_exit ?_
      have ho := hp; clear hp; obtain ⟨a11, hp, hx_a11⟩ := map_any ho; clear ho
      obtain rfl := hx4 _ hx_a11
      refine W_seq ?_
      refine W_seq ?_
      refine W_region ?_
      refine L_move rfl rfl ?_
      refine L_move rfl rfl ?_
      refine L_lenT rfl rfl str9 ?_
      refine L_binV rfl rfl rfl bv_lss ?_
      refine L_nil ?_
      refine W_weaken (l' := [(0, _), (3, _), (4, _), (47, _)]) (Sub.cons rfl (Sub.cons rfl (Sub.cons rfl (Sub.cons rfl (Sub.nil _))))) (MSub.refl _) ?_
      refine W_cond rfl (fun hc12 => ?_) (fun hc12 => ?_)
      · skip
        replace hp := cond_t hc12 hp
        refine W_region ?_
        refine L_move rfl rfl ?_
        refine L_move rfl rfl ?_
        refine L_move rfl rfl ?_
        have ho := hp; clear hp; obtain ⟨y13, hy13, hp⟩ := bind_any ho; clear ho
        refine L_ssl rfl rfl rfl rfl str9 hy13 ?_
        refine L_buildSlice1 rfl rfl el73 rfl (by decide) (by decide) rfl (fun bb52 => ?_)
        have ho := hp; clear hp; obtain ⟨y15, hy15, hp⟩ := bind_any ho; clear ho
        refine L_app1F (X := v4_0) (y13 : ByteArray) rfl rfl rfl el73 rfl rfl (by first | (with_reducible repeat (first | exact Pick.here _ | apply Pick.there)); done | (repeat (first | exact Pick.here _ | apply Pick.there))) (by first | (with_reducible repeat (first | exact List.Mem.head _ | apply List.Mem.tail)); done | (repeat (first | exact List.Mem.head _ | apply List.Mem.tail)))  hy15 (by decide) (fun X14 hdX14 => ?_)
        subst hdX14
        refine L_assign rfl rfl ?_
        refine L_nil ?_
        refine W_seq ?_
        refine W_region ?_
        refine L_move rfl rfl ?_
        refine L_assign rfl rfl ?_
        refine L_nil ?_
        obtain rfl := Option.some.inj hp
        refine W_ret ?_
        refine res1 rfl (ResOK.tmp rfl) ⟨X14, rfl, rfl, rfl⟩ (MSub.cons (by first | (with_reducible repeat (first | exact Pick.here _ | apply Pick.there)); done | (repeat (first | exact Pick.here _ | apply Pick.there))) (MSub.nil _))
      · skip
        replace hp := cond_f hc12 hp
        refine W_skip ?_
        refine W_seq ?_
        refine W_region ?_
        refine L_move rfl rfl ?_
        refine L_assign rfl rfl ?_
        refine L_nil ?_
        obtain rfl := Option.some.inj hp
        refine W_ret ?_
        refine res1 rfl (ResOK.tmp rfl) ⟨v4_0, rfl, rfl, rfl⟩ (MSub.cons (by first | (with_reducible repeat (first | exact Pick.here _ | apply Pick.there)); done | (repeat (first | exact Pick.here _ | apply Pick.there))) (MSub.nil _))

noncomputable def s_CutData (a0 : ByteArray) : Option (List ByteArray) :=
  Option.bind (some ([] : List ByteArray)) (fun y2 => cond (decide (400 < (a0.size : Int))) (some y2) (whileP (fun s4 : (List ByteArray) × Int × Int => cond (decide (s4.2.2 < (a0.size : Int))) (gb (decide (3 ≤ IntKind.wrap .i64 (IntKind.wrap .i64 (s4.2.2 + 1) - s4.2.1))) (sidx a0 s4.2.2) (fun y6 => cond (((decide (3 ≤ IntKind.wrap .i64 (IntKind.wrap .i64 (s4.2.2 + 1) - s4.2.1))) && (decide ((y6).tmod 8 = 0))) || (decide (12 ≤ IntKind.wrap .i64 (IntKind.wrap .i64 (s4.2.2 + 1) - s4.2.1)))) (Option.bind (sslP a0 s4.2.1 (IntKind.wrap .i64 (s4.2.2 + 1))) (fun y8 => Option.bind (appP s4.1 [y8]) (fun y10 => some (.inl ((y10, IntKind.wrap .i64 (s4.2.2 + 1), IntKind.wrap .i64 (s4.2.2 + 1))))))) (some (.inl ((s4.1, s4.2.1, IntKind.wrap .i64 (s4.2.2 + 1))))))) (Option.map .inr (cond (decide (s4.2.1 < (a0.size : Int))) (Option.bind (sslP a0 s4.2.1 (a0.size : Int)) (fun y13 => Option.bind (appP s4.1 [y13]) (fun y15 => some y15))) (some s4.1)))) (y2, 0, 0)))

theorem s_CutData_walk (w : World) (a0 : ByteArray)  (r : (List ByteArray)) (hp : s_CutData a0 = some r) : Spec Tryd.prog 49 [.string a0].toArray w [] (fun v M => ∃ (x0 : TL ByteArray), v = (TL.hdr x0) ∧ GT.dat x0 = r ∧ M = [treeH x0]) := by
  refine Spec.intro Tryd.func49 rfl Tryd.ntmps49 rfl ?_
  unfold s_CutData at hp
  try dsimp only [dat_pair, dat_int, dat_bool, dat_str, dat_ar] at hp
  refine W_seq ?_
  refine W_region ?_
  refine L_assign (v := (TL.hdr (TL.nil ByteArray 0))) rfl rfl ?_
  refine L_nil ?_
  refine W_seq ?_
  refine W_region ?_
  have ho := hp; clear hp; obtain ⟨y2, hy2, hp⟩ := bind_any ho; clear ho
  refine L_mk0 ByteArray rfl el73 (fun X1 hdX1 => ?_)
  obtain rfl : GT.dat X1 = y2 := hdX1.trans (Option.some.inj hy2)
  clear hy2 hdX1
  refine L_assign rfl rfl ?_
  refine L_nil ?_
  refine W_seq ?_
  refine W_seq ?_
  refine W_region ?_
  refine L_move rfl rfl ?_
  refine L_lenT rfl rfl str9 ?_
  refine L_binV rfl rfl rfl bv_gtr ?_
  refine L_nil ?_
  refine W_weaken (l' := [(0, _), (3, _), (10, _)]) (Sub.cons rfl (Sub.cons rfl (Sub.cons rfl (Sub.nil _)))) (MSub.refl _) ?_
  refine W_cond rfl (fun hc3 => ?_) (fun hc3 => ?_)
  · skip
    replace hp := cond_t hc3 hp
    refine W_seq ?_
    refine W_region ?_
    refine L_move rfl rfl ?_
    refine L_assign rfl rfl ?_
    refine L_nil ?_
    obtain rfl := Option.some.inj hp
    refine W_ret ?_
    refine res1 rfl (ResOK.tmp rfl) ⟨X1, rfl, rfl, rfl⟩ (MSub.cons (by first | (with_reducible repeat (first | exact Pick.here _ | apply Pick.there)); done | (repeat (first | exact Pick.here _ | apply Pick.there))) (MSub.nil _))
  · skip
    replace hp := cond_f hc3 hp
    refine W_skip ?_
    refine W_seq ?_
    refine W_region ?_
    refine L_assign rfl rfl ?_
    refine L_nil ?_
    refine W_seq ?_
    refine W_seq ?_
    refine W_region ?_
    refine L_assign rfl rfl ?_
    refine L_nil ?_
    refine W_block ?_
    refine W_while (σ := (TL ByteArray) × Int × Int) GT.dat (fun ((v4_0, v4_1, v4_2) : (TL ByteArray) × Int × Int) => [(3, (TL.hdr v4_0)), (4, .int .i64 v4_1), (5, .int .i64 v4_2)]) (fun ((v4_0, v4_1, v4_2) : (TL ByteArray) × Int × Int) => [treeH v4_0]) [(0, _)] [] (X1, 0, 0) hp (Sub.cons rfl (Sub.cons rfl (Sub.cons rfl (Sub.cons rfl (Sub.nil _))))) (MSub.cons (by first | (with_reducible repeat (first | exact Pick.here _ | apply Pick.there)); done | (repeat (first | exact Pick.here _ | apply Pick.there))) (MSub.nil _)) ?_
    clear hp
    rintro ⟨v4_0, v4_1, v4_2⟩ x4 hp hx4
    try dsimp only [dat_pair, dat_int, dat_bool, dat_str, dat_ar] at hp
    refine W_weaken (l' := [(0, _), (3, _), (4, _), (5, _)]) (Sub.cons rfl (Sub.cons rfl (Sub.cons rfl (Sub.cons rfl (Sub.nil _))))) (M' := [_]) (MSub.cons (by first | (with_reducible repeat (first | exact Pick.here _ | apply Pick.there)); done | (repeat (first | exact Pick.here _ | apply Pick.there))) (MSub.nil _)) ?_
    refine W_seq ?_
    refine W_seq ?_
    refine W_region ?_
    refine L_move rfl rfl ?_
    refine L_move rfl rfl ?_
    refine L_lenT rfl rfl str9 ?_
    refine L_binV rfl rfl rfl bv_lss ?_
    refine L_nil ?_
    refine W_weaken (l' := [(0, _), (3, _), (4, _), (5, _), (15, _)]) (Sub.cons rfl (Sub.cons rfl (Sub.cons rfl (Sub.cons rfl (Sub.cons rfl (Sub.nil _)))))) (MSub.refl _) ?_
    refine W_cond rfl (fun hc5 => ?_) (fun hc5 => ?_)
    · skip
      replace hp := cond_t hc5 hp
      refine W_skip ?_
      refine W_seq ?_
      refine W_block ?_
      refine W_seq ?_
      refine W_region ?_
      refine L_move rfl rfl ?_
      refine L_binV rfl rfl rfl bv_add ?_
      refine L_move rfl rfl ?_
      refine L_binV rfl rfl rfl bv_sub ?_
      refine L_assign rfl rfl ?_
      refine L_nil ?_
      refine W_seq ?_
      have ho := hp; clear hp; obtain ⟨y6, hy6, hp⟩ := gb_any ho; clear ho
      refine W_D0 [34] mix (by kernel_rfl) rfl ?_
      refine D_move GC.none (OpV.t rfl) ?_
      refine D_bin GC.none (OpV.t rfl) OpV.c (fun hg => bv_geq) ?_
      refine D_move GC.none (OpV.t rfl) ?_
      refine D_move (GC.some rfl rfl) (OpV.t rfl) ?_
      refine D_move (GC.some rfl rfl) (OpV.t rfl) ?_
      refine D_idxS (GC.some rfl rfl) (OpV.s rfl) (OpV.s rfl) str9 (fun hg => (hy6 hg.2)) ?_
      refine D_bin (GC.some rfl rfl) (OpV.s rfl) OpV.c (fun hg => (bv_rem (by decide))) ?_
      refine D_bin (GC.some rfl rfl) (OpV.s rfl) OpV.c (fun hg => bv_eql) ?_
      refine D_and (cy := _) GC.none (OpV.t rfl) (OpV.s rfl) (fun h hb => ⟨h, hb⟩) ?_
      refine D_move GC.none (OpV.t rfl) ?_
      refine D_move (GC.some rfl rfl) (OpV.t rfl) ?_
      refine D_bin (GC.some rfl rfl) (OpV.s rfl) OpV.c (fun hg => bv_geq) ?_
      refine D_or (cy := _) GC.none (OpV.t rfl) (OpV.s rfl) (fun h hb => ⟨h, hb⟩) ?_
      refine DV_nil ?_
      refine Give_is rfl rfl ?_
      refine Give_drop rfl ?_
      refine Give_drop rfl ?_
      refine Give_drop rfl ?_
      refine Give_drop rfl ?_
      refine Give_drop rfl ?_
      refine Give_drop rfl ?_
      refine Give_drop rfl ?_
      refine Give_drop rfl ?_
      refine Give_drop rfl ?_
      refine Give_drop rfl ?_
      refine Give_drop rfl ?_
      refine Give_drop rfl ?_
      refine Give_nil ?_
      refine W_weaken (l' := [(0, _), (3, _), (4, _), (5, _), (34, _)]) (Sub.cons rfl (Sub.cons rfl (Sub.cons rfl (Sub.cons rfl (Sub.cons rfl (Sub.nil _)))))) (MSub.refl _) ?_
      refine W_cond rfl (fun hc7 => ?_) (fun hc7 => ?_)
      · skip
        replace hp := cond_t hc7 hp
        refine W_seq ?_
        refine W_region ?_
        refine L_move rfl rfl ?_
        refine L_move rfl rfl ?_
        refine L_move rfl rfl ?_
        refine L_move rfl rfl ?_
        refine L_binV rfl rfl rfl bv_add ?_
        have ho := hp; clear hp; obtain ⟨y8, hy8, hp⟩ := bind_any ho; clear ho
        refine L_ssl rfl rfl rfl rfl str9 hy8 ?_
        refine L_buildSlice1 rfl rfl el73 rfl (by decide) (by decide) rfl (fun bb41 => ?_)
        have ho := hp; clear hp; obtain ⟨y10, hy10, hp⟩ := bind_any ho; clear ho
        refine L_app1F (X := v4_0) (y8 : ByteArray) rfl rfl rfl el73 rfl rfl (by first | (with_reducible repeat (first | exact Pick.here _ | apply Pick.there)); done | (repeat (first | exact Pick.here _ | apply Pick.there))) (by first | (with_reducible repeat (first | exact List.Mem.head _ | apply List.Mem.tail)); done | (repeat (first | exact List.Mem.head _ | apply List.Mem.tail)))  hy10 (by decide) (fun X9 hdX9 => ?_)
        subst hdX9
        refine L_assign rfl rfl ?_
        refine L_nil ?_
        refine W_region ?_
        refine L_move rfl rfl ?_
        refine L_binV rfl rfl rfl bv_add ?_
        refine L_assign rfl rfl ?_
        refine L_nil ?_
        refine W_region ?_
        refine L_move rfl rfl ?_
        refine L_binV rfl rfl rfl bv_add ?_
        refine L_assign rfl rfl ?_
        refine L_nil ?_
        exact ⟨(X9, IntKind.wrap .i64 (v4_2 + 1), IntKind.wrap .i64 (v4_2 + 1)), (Sub.cons rfl (Sub.cons rfl (Sub.cons rfl (Sub.cons rfl (Sub.nil _))))), (Arr.sub (MSub.cons (by first | (with_reducible repeat (first | exact Pick.here _ | apply Pick.there)); done | (repeat (first | exact Pick.here _ | apply Pick.there))) (MSub.nil _))), some_eq hp⟩
      · skip
        replace hp := cond_f hc7 hp
        refine W_skip ?_
        refine W_region ?_
        refine L_move rfl rfl ?_
        refine L_binV rfl rfl rfl bv_add ?_
        refine L_assign rfl rfl ?_
        refine L_nil ?_
        exact ⟨(v4_0, v4_1, IntKind.wrap .i64 (v4_2 + 1)), (Sub.cons rfl (Sub.cons rfl (Sub.cons rfl (Sub.cons rfl (Sub.nil _))))), (Arr.sub (MSub.cons (by first | (with_reducible repeat (first | exact Pick.here _ | apply Pick.there)); done | (repeat (first | exact Pick.here _ | apply Pick.there))) (MSub.nil _))), some_eq hp⟩
    · skip
      replace hp := cond_f hc5 hp
      refine W_exit ?_
      have ho := hp; clear hp; obtain ⟨a11, hp, hx_a11⟩ := map_any ho; clear ho
      obtain rfl := hx4 _ hx_a11
      refine W_seq ?_
      refine W_seq ?_
      refine W_region ?_
      refine L_move rfl rfl ?_
      refine L_move rfl rfl ?_
      refine L_lenT rfl rfl str9 ?_
      refine L_binV rfl rfl rfl bv_lss ?_
      refine L_nil ?_
      refine W_weaken (l' := [(0, _), (3, _), (4, _), (48, _)]) (Sub.cons rfl (Sub.cons rfl (Sub.cons rfl (Sub.cons rfl (Sub.nil _))))) (MSub.refl _) ?_
      refine W_cond rfl (fun hc12 => ?_) (fun hc12 => ?_)
      · skip
        replace hp := cond_t hc12 hp
        refine W_region ?_
        refine L_move rfl rfl ?_
        refine L_move rfl rfl ?_
        refine L_move rfl rfl ?_
        have ho := hp; clear hp; obtain ⟨y13, hy13, hp⟩ := bind_any ho; clear ho
        refine L_ssl rfl rfl rfl rfl str9 hy13 ?_
        refine L_buildSlice1 rfl rfl el73 rfl (by decide) (by decide) rfl (fun bb53 => ?_)
        have ho := hp; clear hp; obtain ⟨y15, hy15, hp⟩ := bind_any ho; clear ho
        refine L_app1F (X := v4_0) (y13 : ByteArray) rfl rfl rfl el73 rfl rfl (by first | (with_reducible repeat (first | exact Pick.here _ | apply Pick.there)); done | (repeat (first | exact Pick.here _ | apply Pick.there))) (by first | (with_reducible repeat (first | exact List.Mem.head _ | apply List.Mem.tail)); done | (repeat (first | exact List.Mem.head _ | apply List.Mem.tail)))  hy15 (by decide) (fun X14 hdX14 => ?_)
        subst hdX14
        refine L_assign rfl rfl ?_
        refine L_nil ?_
        refine W_seq ?_
        refine W_region ?_
        refine L_move rfl rfl ?_
        refine L_assign rfl rfl ?_
        refine L_nil ?_
        obtain rfl := Option.some.inj hp
        refine W_ret ?_
        refine res1 rfl (ResOK.tmp rfl) ⟨X14, rfl, rfl, rfl⟩ (MSub.cons (by first | (with_reducible repeat (first | exact Pick.here _ | apply Pick.there)); done | (repeat (first | exact Pick.here _ | apply Pick.there))) (MSub.nil _))
      · skip
        replace hp := cond_f hc12 hp
        refine W_skip ?_
        refine W_seq ?_
        refine W_region ?_
        refine L_move rfl rfl ?_
        refine L_assign rfl rfl ?_
        refine L_nil ?_
        obtain rfl := Option.some.inj hp
        refine W_ret ?_
        refine res1 rfl (ResOK.tmp rfl) ⟨v4_0, rfl, rfl, rfl⟩ (MSub.cons (by first | (with_reducible repeat (first | exact Pick.here _ | apply Pick.there)); done | (repeat (first | exact Pick.here _ | apply Pick.there))) (MSub.nil _))

noncomputable def i_Joined (a0 : List ByteArray) : Option ByteArray :=
  whileP (fun s1 : ByteArray × Int => cond (decide (s1.2 < (a0.length : Int))) (Option.bind (idx a0 s1.2) (fun y3 => Option.bind (catP s1.1 y3) (fun y4 => some (.inl ((y4, IntKind.wrap .i64 (s1.2 + 1))))))) (Option.map .inr (some s1.1))) (ByteArray.empty, 0)

theorem i_Joined_walk (w : World) (a0 : TL ByteArray) (h0 : GT.rd w [] a0) (r : ByteArray) (hp : i_Joined (GT.dat a0) = some r) : Spec Tryd.prog 52 [(TL.hdr a0)].toArray w [] (IsV (.string r)) := by
  refine Spec.intro Tryd.func52 rfl Tryd.ntmps52 rfl ?_
  unfold i_Joined at hp
  try dsimp only [dat_pair, dat_int, dat_bool, dat_str, dat_ar] at hp
  refine W_seq ?_
  refine W_region ?_
  refine L_assign rfl rfl ?_
  refine L_nil ?_
  refine W_seq ?_
  refine W_region ?_
  refine L_assign rfl rfl ?_
  refine L_nil ?_
  refine W_seq ?_
  refine W_seq ?_
  refine W_region ?_
  refine L_move rfl rfl ?_
  refine L_lenP (X := a0) rfl rfl el73 ?_
  refine L_move rfl rfl ?_
  refine L_nil ?_
  refine W_block ?_
  refine W_while (σ := ByteArray × Int) GT.dat (fun ((v1_0, v1_1) : ByteArray × Int) => [(3, .string v1_0), (8, .int .i64 v1_1)]) (fun ((v1_0, v1_1) : ByteArray × Int) => []) [(6, _), (7, _)] [] (ByteArray.empty, 0) hp (Sub.cons rfl (Sub.cons rfl (Sub.cons rfl (Sub.cons rfl (Sub.nil _))))) (MSub.nil _) ?_
  clear hp
  rintro ⟨v1_0, v1_1⟩ x1 hp hx1
  try dsimp only [dat_pair, dat_int, dat_bool, dat_str, dat_ar] at hp
  refine W_weaken (l' := [(3, _), (6, _), (7, _), (8, _)]) (Sub.cons rfl (Sub.cons rfl (Sub.cons rfl (Sub.cons rfl (Sub.nil _))))) (M' := []) (MSub.nil _) ?_
  refine W_seq ?_
  refine W_region ?_
  refine L_binV rfl rfl rfl bv_lss ?_
  refine L_nil ?_
  refine W_seq ?_
  refine W_weaken (l' := [(3, _), (6, _), (7, _), (8, _), (9, _)]) (Sub.cons rfl (Sub.cons rfl (Sub.cons rfl (Sub.cons rfl (Sub.cons rfl (Sub.nil _)))))) (MSub.refl _) ?_
  refine W_cond rfl (fun hc2 => ?_) (fun hc2 => ?_)
  · skip
    replace hp := cond_t hc2 hp
    refine W_skip ?_
    refine W_seq ?_
    refine W_block ?_
    refine W_seq ?_
    refine W_region ?_
    have ho := hp; clear hp; obtain ⟨u3, hy3, hp⟩ := idx_bind ho; clear ho
    refine L_idxA (X := a0) rfl rfl rfl el73 (RdT.old h0) hy3 ?_
    refine L_load0 rfl rfl (RdT.at (RdT.old h0) (hy3).2) one9 rfl ?_
    refine L_assign rfl rfl ?_
    refine L_nil ?_
    refine W_region ?_
    refine L_move rfl rfl ?_
    refine L_move rfl rfl ?_
    have ho := hp; clear hp; obtain ⟨y4, hy4, hp⟩ := bind_any ho; clear ho
    refine L_binV rfl rfl rfl (bv_saddP hy4) ?_
    refine L_assign rfl rfl ?_
    refine L_nil ?_
    refine W_region ?_
    refine L_binV rfl rfl rfl bv_add ?_
    refine L_move rfl rfl ?_
    refine L_nil ?_
    exact ⟨(y4, IntKind.wrap .i64 (v1_1 + 1)), (Sub.cons rfl (Sub.cons rfl (Sub.cons rfl (Sub.cons rfl (Sub.nil _))))), (Arr.sub (MSub.nil _)), some_eq hp⟩
  · skip
    replace hp := cond_f hc2 hp
    refine W_exit ?_
    have ho := hp; clear hp; obtain ⟨a5, hp, hx_a5⟩ := map_any ho; clear ho
    obtain rfl := hx1 _ hx_a5
    refine W_seq ?_
    refine W_region ?_
    refine L_move rfl rfl ?_
    refine L_assign rfl rfl ?_
    refine L_nil ?_
    obtain rfl := Option.some.inj hp
    refine W_ret ?_
    refine res1 rfl (ResOK.tmp rfl) ⟨rfl, rfl⟩ (MSub.nil _)

noncomputable def i_CutIds (a0 : ByteArray) : Option (List ByteArray) :=
  Option.bind (some ([] : List ByteArray)) (fun y2 => Option.bind (i_CutData a0) (fun y3 => whileP (fun s4 : (List ByteArray) × Int => cond (decide (s4.2 < (y3.length : Int))) (Option.bind (idx y3 s4.2) (fun y6 => Option.bind (i_Short y6) (fun y7 => Option.bind (appP s4.1 [y7]) (fun y9 => some (.inl ((y9, IntKind.wrap .i64 (s4.2 + 1)))))))) (Option.map .inr (some s4.1))) (y2, 0)))

theorem i_CutIds_walk (w : World) (a0 : ByteArray) (hg0 : GT.rd w [] gV0) (r : (List ByteArray)) (hp : i_CutIds a0 = some r) : Spec Tryd.prog 53 [.string a0].toArray w [] (fun v M => ∃ (x0 : TL ByteArray), v = (TL.hdr x0) ∧ GT.dat x0 = r ∧ M = [treeH x0]) := by
  refine Spec.intro Tryd.func53 rfl Tryd.ntmps53 rfl ?_
  unfold i_CutIds at hp
  try dsimp only [dat_pair, dat_int, dat_bool, dat_str, dat_ar] at hp
  refine W_seq ?_
  refine W_region ?_
  refine L_assign (v := (TL.hdr (TL.nil ByteArray 0))) rfl rfl ?_
  refine L_nil ?_
  refine W_seq ?_
  refine W_region ?_
  have ho := hp; clear hp; obtain ⟨y2, hy2, hp⟩ := bind_any ho; clear ho
  refine L_mk0 ByteArray rfl el73 (fun X1 hdX1 => ?_)
  obtain rfl : GT.dat X1 = y2 := hdX1.trans (Option.some.inj hy2)
  clear hy2 hdX1
  refine L_assign rfl rfl ?_
  refine L_nil ?_
  refine W_seq ?_
  refine W_seq ?_
  refine W_region ?_
  refine L_move rfl rfl ?_
  have ho := hp; clear hp; obtain ⟨y3, hy3, hp⟩ := bind_any ho; clear ho
  refine L_callR rfl fn47 rfl (by exact fun w hw => i_CutData_walk w a0  _ hy3) ?_
  rintro vy3 My3 ⟨y3x0, hvy3, hdy3, rfl⟩
  subst hvy3
  subst hdy3
  simp only [cells_pair, cells_int, cells_bool, cells_str, cells_TL, List.cons_append, List.nil_append]
  try dsimp only [dat_pair, dat_int, dat_bool, dat_str, dat_ar] at hp
  refine L_lenP (X := y3x0) rfl rfl el73 ?_
  refine L_move rfl rfl ?_
  refine L_nil ?_
  refine W_block ?_
  refine W_while (σ := (TL ByteArray) × Int) GT.dat (fun ((v4_0, v4_1) : (TL ByteArray) × Int) => [(3, (TL.hdr v4_0)), (10, .int .i64 v4_1)]) (fun ((v4_0, v4_1) : (TL ByteArray) × Int) => [treeH v4_0]) [(8, _), (9, _)] [treeH y3x0] (X1, 0) hp (Sub.cons rfl (Sub.cons rfl (Sub.cons rfl (Sub.cons rfl (Sub.nil _))))) (MSub.cons (by first | (with_reducible repeat (first | exact Pick.here _ | apply Pick.there)); done | (repeat (first | exact Pick.here _ | apply Pick.there))) (MSub.cons (by first | (with_reducible repeat (first | exact Pick.here _ | apply Pick.there)); done | (repeat (first | exact Pick.here _ | apply Pick.there))) (MSub.nil _))) ?_
  clear hp
  rintro ⟨v4_0, v4_1⟩ x4 hp hx4
  try dsimp only [dat_pair, dat_int, dat_bool, dat_str, dat_ar] at hp
  refine W_weaken (l' := [(3, _), (8, _), (9, _), (10, _)]) (Sub.cons rfl (Sub.cons rfl (Sub.cons rfl (Sub.cons rfl (Sub.nil _))))) (M' := [_, _]) (MSub.cons (by first | (with_reducible repeat (first | exact Pick.here _ | apply Pick.there)); done | (repeat (first | exact Pick.here _ | apply Pick.there))) (MSub.cons (by first | (with_reducible repeat (first | exact Pick.here _ | apply Pick.there)); done | (repeat (first | exact Pick.here _ | apply Pick.there))) (MSub.nil _))) ?_
  refine W_seq ?_
  refine W_region ?_
  refine L_binV rfl rfl rfl bv_lss ?_
  refine L_nil ?_
  refine W_seq ?_
  refine W_weaken (l' := [(3, _), (8, _), (9, _), (10, _), (11, _)]) (Sub.cons rfl (Sub.cons rfl (Sub.cons rfl (Sub.cons rfl (Sub.cons rfl (Sub.nil _)))))) (MSub.refl _) ?_
  refine W_cond rfl (fun hc5 => ?_) (fun hc5 => ?_)
  · skip
    replace hp := cond_t hc5 hp
    refine W_skip ?_
    refine W_seq ?_
    refine W_block ?_
    refine W_seq ?_
    refine W_region ?_
    have ho := hp; clear hp; obtain ⟨u6, hy6, hp⟩ := idx_bind ho; clear ho
    refine L_idxA (X := y3x0) rfl rfl rfl el73 (RdT.tree (by first | (with_reducible repeat (first | exact List.Mem.head _ | apply List.Mem.tail)); done | (repeat (first | exact List.Mem.head _ | apply List.Mem.tail)))) hy6 ?_
    refine L_load0 rfl rfl (RdT.at (RdT.tree (by first | (with_reducible repeat (first | exact List.Mem.head _ | apply List.Mem.tail)); done | (repeat (first | exact List.Mem.head _ | apply List.Mem.tail)))) (hy6).2) one9 rfl ?_
    refine L_assign rfl rfl ?_
    refine L_nil ?_
    refine W_region ?_
    refine L_move rfl rfl ?_
    refine L_move rfl rfl ?_
    have ho := hp; clear hp; obtain ⟨y7, hy7, hp⟩ := bind_any ho; clear ho
    refine L_callX rfl fn68 rfl (by exact fun w hw => i_Short_walk w u6 (RdT.now (RdT.old hg0) hw) _ hy7) ?_
    refine L_buildSlice1 rfl rfl el73 rfl (by decide) (by decide) rfl (fun bb17 => ?_)
    have ho := hp; clear hp; obtain ⟨y9, hy9, hp⟩ := bind_any ho; clear ho
    refine L_app1F (X := v4_0) (y7 : ByteArray) rfl rfl rfl el73 rfl rfl (by first | (with_reducible repeat (first | exact Pick.here _ | apply Pick.there)); done | (repeat (first | exact Pick.here _ | apply Pick.there))) (by first | (with_reducible repeat (first | exact List.Mem.head _ | apply List.Mem.tail)); done | (repeat (first | exact List.Mem.head _ | apply List.Mem.tail)))  hy9 (by decide) (fun X8 hdX8 => ?_)
    subst hdX8
    refine L_assign rfl rfl ?_
    refine L_nil ?_
    refine W_region ?_
    refine L_binV rfl rfl rfl bv_add ?_
    refine L_move rfl rfl ?_
    refine L_nil ?_
    exact ⟨(X8, IntKind.wrap .i64 (v4_1 + 1)), (Sub.cons rfl (Sub.cons rfl (Sub.cons rfl (Sub.cons rfl (Sub.nil _))))), (Arr.sub (MSub.cons (by first | (with_reducible repeat (first | exact Pick.here _ | apply Pick.there)); done | (repeat (first | exact Pick.here _ | apply Pick.there))) (MSub.cons (by first | (with_reducible repeat (first | exact Pick.here _ | apply Pick.there)); done | (repeat (first | exact Pick.here _ | apply Pick.there))) (MSub.nil _)))), some_eq hp⟩
  · skip
    replace hp := cond_f hc5 hp
    refine W_exit ?_
    have ho := hp; clear hp; obtain ⟨a10, hp, hx_a10⟩ := map_any ho; clear ho
    obtain rfl := hx4 _ hx_a10
    refine W_seq ?_
    refine W_region ?_
    refine L_move rfl rfl ?_
    refine L_assign rfl rfl ?_
    refine L_nil ?_
    obtain rfl := Option.some.inj hp
    refine W_ret ?_
    refine res1 rfl (ResOK.tmp rfl) ⟨v4_0, rfl, rfl, rfl⟩ (MSub.cons (by first | (with_reducible repeat (first | exact Pick.here _ | apply Pick.there)); done | (repeat (first | exact Pick.here _ | apply Pick.there))) (MSub.nil _))

noncomputable def s_CutIds (a0 : ByteArray) : Option (List ByteArray) :=
  Option.bind (some ([] : List ByteArray)) (fun y2 => Option.bind (s_CutData a0) (fun y3 => whileP (fun s4 : (List ByteArray) × Int => cond (decide (s4.2 < (y3.length : Int))) (Option.bind (idx y3 s4.2) (fun y6 => Option.bind (s_Short y6) (fun y7 => Option.bind (appP s4.1 [y7]) (fun y9 => some (.inl ((y9, IntKind.wrap .i64 (s4.2 + 1)))))))) (Option.map .inr (some s4.1))) (y2, 0)))

theorem s_CutIds_walk (w : World) (a0 : ByteArray)  (r : (List ByteArray)) (hp : s_CutIds a0 = some r) : Spec Tryd.prog 54 [.string a0].toArray w [] (fun v M => ∃ (x0 : TL ByteArray), v = (TL.hdr x0) ∧ GT.dat x0 = r ∧ M = [treeH x0]) := by
  refine Spec.intro Tryd.func54 rfl Tryd.ntmps54 rfl ?_
  unfold s_CutIds at hp
  try dsimp only [dat_pair, dat_int, dat_bool, dat_str, dat_ar] at hp
  refine W_seq ?_
  refine W_region ?_
  refine L_assign (v := (TL.hdr (TL.nil ByteArray 0))) rfl rfl ?_
  refine L_nil ?_
  refine W_seq ?_
  refine W_region ?_
  have ho := hp; clear hp; obtain ⟨y2, hy2, hp⟩ := bind_any ho; clear ho
  refine L_mk0 ByteArray rfl el73 (fun X1 hdX1 => ?_)
  obtain rfl : GT.dat X1 = y2 := hdX1.trans (Option.some.inj hy2)
  clear hy2 hdX1
  refine L_assign rfl rfl ?_
  refine L_nil ?_
  refine W_seq ?_
  refine W_region ?_
  refine L_move rfl rfl ?_
  have ho := hp; clear hp; obtain ⟨y3, hy3, hp⟩ := bind_any ho; clear ho
  refine L_callR rfl fn49 rfl (by exact fun w hw => s_CutData_walk w a0  _ hy3) ?_
  rintro vy3 My3 ⟨y3x0, hvy3, hdy3, rfl⟩
  subst hvy3
  subst hdy3
  simp only [cells_pair, cells_int, cells_bool, cells_str, cells_TL, List.cons_append, List.nil_append]
  try dsimp only [dat_pair, dat_int, dat_bool, dat_str, dat_ar] at hp
  refine L_assign rfl rfl ?_
  refine L_nil ?_
  refine W_seq ?_
  refine W_seq ?_
  refine W_region ?_
  refine L_assign rfl rfl ?_
  refine L_nil ?_
  refine W_block ?_
  refine W_while (σ := (TL ByteArray) × Int) GT.dat (fun ((v4_0, v4_1) : (TL ByteArray) × Int) => [(3, (TL.hdr v4_0)), (5, .int .i64 v4_1)]) (fun ((v4_0, v4_1) : (TL ByteArray) × Int) => [treeH v4_0]) [(4, _)] [treeH y3x0] (X1, 0) hp (Sub.cons rfl (Sub.cons rfl (Sub.cons rfl (Sub.nil _)))) (MSub.cons (by first | (with_reducible repeat (first | exact Pick.here _ | apply Pick.there)); done | (repeat (first | exact Pick.here _ | apply Pick.there))) (MSub.cons (by first | (with_reducible repeat (first | exact Pick.here _ | apply Pick.there)); done | (repeat (first | exact Pick.here _ | apply Pick.there))) (MSub.nil _))) ?_
  clear hp
  rintro ⟨v4_0, v4_1⟩ x4 hp hx4
  try dsimp only [dat_pair, dat_int, dat_bool, dat_str, dat_ar] at hp
  refine W_weaken (l' := [(3, _), (4, _), (5, _)]) (Sub.cons rfl (Sub.cons rfl (Sub.cons rfl (Sub.nil _)))) (M' := [_, _]) (MSub.cons (by first | (with_reducible repeat (first | exact Pick.here _ | apply Pick.there)); done | (repeat (first | exact Pick.here _ | apply Pick.there))) (MSub.cons (by first | (with_reducible repeat (first | exact Pick.here _ | apply Pick.there)); done | (repeat (first | exact Pick.here _ | apply Pick.there))) (MSub.nil _))) ?_
  refine W_seq ?_
  refine W_seq ?_
  refine W_region ?_
  refine L_move rfl rfl ?_
  refine L_move rfl rfl ?_
  refine L_lenP (X := y3x0) rfl rfl el73 ?_
  refine L_binV rfl rfl rfl bv_lss ?_
  refine L_nil ?_
  refine W_weaken (l' := [(3, _), (4, _), (5, _), (12, _)]) (Sub.cons rfl (Sub.cons rfl (Sub.cons rfl (Sub.cons rfl (Sub.nil _))))) (MSub.refl _) ?_
  refine W_cond rfl (fun hc5 => ?_) (fun hc5 => ?_)
  · skip
    replace hp := cond_t hc5 hp
    refine W_skip ?_
    refine W_seq ?_
    refine W_block ?_
    refine W_region ?_
    refine L_move rfl rfl ?_
    refine L_move rfl rfl ?_
    refine L_move rfl rfl ?_
    have ho := hp; clear hp; obtain ⟨u6, hy6, hp⟩ := idx_bind ho; clear ho
    refine L_idxA (X := y3x0) rfl rfl rfl el73 (RdT.tree (by first | (with_reducible repeat (first | exact List.Mem.head _ | apply List.Mem.tail)); done | (repeat (first | exact List.Mem.head _ | apply List.Mem.tail)))) hy6 ?_
    refine L_load0 rfl rfl (RdT.at (RdT.tree (by first | (with_reducible repeat (first | exact List.Mem.head _ | apply List.Mem.tail)); done | (repeat (first | exact List.Mem.head _ | apply List.Mem.tail)))) (hy6).2) one9 rfl ?_
    have ho := hp; clear hp; obtain ⟨y7, hy7, hp⟩ := bind_any ho; clear ho
    refine L_callX rfl fn42 rfl (by exact fun w hw => s_Short_walk w u6  _ hy7) ?_
    refine L_buildSlice1 rfl rfl el73 rfl (by decide) (by decide) rfl (fun bb21 => ?_)
    have ho := hp; clear hp; obtain ⟨y9, hy9, hp⟩ := bind_any ho; clear ho
    refine L_app1F (X := v4_0) (y7 : ByteArray) rfl rfl rfl el73 rfl rfl (by first | (with_reducible repeat (first | exact Pick.here _ | apply Pick.there)); done | (repeat (first | exact Pick.here _ | apply Pick.there))) (by first | (with_reducible repeat (first | exact List.Mem.head _ | apply List.Mem.tail)); done | (repeat (first | exact List.Mem.head _ | apply List.Mem.tail)))  hy9 (by decide) (fun X8 hdX8 => ?_)
    subst hdX8
    refine L_assign rfl rfl ?_
    refine L_nil ?_
    refine W_region ?_
    refine L_move rfl rfl ?_
    refine L_binV rfl rfl rfl bv_add ?_
    refine L_assign rfl rfl ?_
    refine L_nil ?_
    exact ⟨(X8, IntKind.wrap .i64 (v4_1 + 1)), (Sub.cons rfl (Sub.cons rfl (Sub.cons rfl (Sub.nil _)))), (Arr.sub (MSub.cons (by first | (with_reducible repeat (first | exact Pick.here _ | apply Pick.there)); done | (repeat (first | exact Pick.here _ | apply Pick.there))) (MSub.cons (by first | (with_reducible repeat (first | exact Pick.here _ | apply Pick.there)); done | (repeat (first | exact Pick.here _ | apply Pick.there))) (MSub.nil _)))), some_eq hp⟩
  · skip
    replace hp := cond_f hc5 hp
    refine W_exit ?_
    have ho := hp; clear hp; obtain ⟨a10, hp, hx_a10⟩ := map_any ho; clear ho
    obtain rfl := hx4 _ hx_a10
    refine W_seq ?_
    refine W_region ?_
    refine L_move rfl rfl ?_
    refine L_assign rfl rfl ?_
    refine L_nil ?_
    obtain rfl := Option.some.inj hp
    refine W_ret ?_
    refine res1 rfl (ResOK.tmp rfl) ⟨v4_0, rfl, rfl, rfl⟩ (MSub.cons (by first | (with_reducible repeat (first | exact Pick.here _ | apply Pick.there)); done | (repeat (first | exact Pick.here _ | apply Pick.there))) (MSub.nil _))

noncomputable def sl_Index_stringstring (a0 : List ByteArray) (a1 : ByteArray) : Option Int :=
  whileP (fun s1 : Int => cond (decide (s1 < (a0.length : Int))) (Option.bind (idx a0 s1) (fun y3 => cond (decide (a1 = y3)) (Option.map .inr (some s1)) (some (.inl (IntKind.wrap .i64 (s1 + 1)))))) (Option.map .inr (some (-1)))) 0

theorem sl_Index_stringstring_walk (w : World) (a0 : TL ByteArray) (a1 : ByteArray) (h0 : GT.rd w [] a0) (r : Int) (hp : sl_Index_stringstring (GT.dat a0) a1 = some r) : Spec Tryd.prog 124 [(TL.hdr a0), .string a1].toArray w [] (IsV (.int .i64 r)) := by
  refine Spec.intro Tryd.func124 rfl Tryd.ntmps124 rfl ?_
  unfold sl_Index_stringstring at hp
  try dsimp only [dat_pair, dat_int, dat_bool, dat_str, dat_ar] at hp
  refine W_seq ?_
  refine W_region ?_
  refine L_assign rfl rfl ?_
  refine L_nil ?_
  refine W_seq ?_
  refine W_seq ?_
  refine W_region ?_
  refine L_move rfl rfl ?_
  refine L_lenP (X := a0) rfl rfl el73 ?_
  refine L_move rfl rfl ?_
  refine L_nil ?_
  refine W_block ?_
  refine W_while (σ := Int) GT.dat (fun (v1_0 : Int) => [(8, .int .i64 v1_0)]) (fun (v1_0 : Int) => []) [(0, _), (1, _), (7, _)] [] 0 hp (Sub.cons rfl (Sub.cons rfl (Sub.cons rfl (Sub.cons rfl (Sub.nil _))))) (MSub.nil _) ?_
  clear hp
  rintro v1_0 x1 hp hx1
  try dsimp only [dat_pair, dat_int, dat_bool, dat_str, dat_ar] at hp
  refine W_weaken (l' := [(0, _), (1, _), (7, _), (8, _)]) (Sub.cons rfl (Sub.cons rfl (Sub.cons rfl (Sub.cons rfl (Sub.nil _))))) (M' := []) (MSub.nil _) ?_
  refine W_seq ?_
  refine W_region ?_
  refine L_binV rfl rfl rfl bv_lss ?_
  refine L_nil ?_
  refine W_seq ?_
  refine W_weaken (l' := [(0, _), (1, _), (7, _), (8, _), (9, _)]) (Sub.cons rfl (Sub.cons rfl (Sub.cons rfl (Sub.cons rfl (Sub.cons rfl (Sub.nil _)))))) (MSub.refl _) ?_
  refine W_cond rfl (fun hc2 => ?_) (fun hc2 => ?_)
  · skip
    replace hp := cond_t hc2 hp
    refine W_skip ?_
    refine W_seq ?_
    refine W_block ?_
    refine W_seq ?_
    refine W_region ?_
    refine L_move rfl rfl ?_
    refine L_assign rfl rfl ?_
    refine L_nil ?_
    refine W_seq ?_
    refine W_region ?_
    refine L_move rfl rfl ?_
    refine L_move rfl rfl ?_
    refine L_move rfl rfl ?_
    have ho := hp; clear hp; obtain ⟨u3, hy3, hp⟩ := idx_bind ho; clear ho
    refine L_idxA (X := a0) rfl rfl rfl el73 (RdT.old h0) hy3 ?_
    refine L_load0 rfl rfl (RdT.at (RdT.old h0) (hy3).2) one9 rfl ?_
    refine L_binV rfl rfl rfl bv_seql ?_
    refine L_nil ?_
    refine W_weaken (l' := [(0, _), (1, _), (5, _), (7, _), (8, _), (16, _)]) (Sub.cons rfl (Sub.cons rfl (Sub.cons rfl (Sub.cons rfl (Sub.cons rfl (Sub.cons rfl (Sub.nil _))))))) (MSub.refl _) ?_
    refine W_cond rfl (fun hc4 => ?_) (fun hc4 => ?_)
    · skip
      replace hp := cond_t hc4 hp
      refine W_seq ?_
      refine W_region ?_
      refine L_move rfl rfl ?_
      refine L_assign rfl rfl ?_
      refine L_nil ?_
      have ho := hp; clear hp; obtain ⟨a5, hp, hx_a5⟩ := map_any ho; clear ho
      obtain rfl := hx1 _ hx_a5
      obtain rfl := Option.some.inj hp
      refine W_ret ?_
      refine res1 rfl (ResOK.tmp rfl) ⟨rfl, rfl⟩ (MSub.nil _)
    · skip
      replace hp := cond_f hc4 hp
      refine W_skip ?_
      refine W_region ?_
      refine L_binV rfl rfl rfl bv_add ?_
      refine L_move rfl rfl ?_
      refine L_nil ?_
      exact ⟨IntKind.wrap .i64 (v1_0 + 1), (Sub.cons rfl (Sub.cons rfl (Sub.cons rfl (Sub.cons rfl (Sub.nil _))))), (Arr.sub (MSub.nil _)), some_eq hp⟩
  · skip
    replace hp := cond_f hc2 hp
    refine W_exit ?_
    have ho := hp; clear hp; obtain ⟨a6, hp, hx_a6⟩ := map_any ho; clear ho
    obtain rfl := hx1 _ hx_a6
    refine W_seq ?_
    refine W_region ?_
    refine L_assign rfl rfl ?_
    refine L_nil ?_
    obtain rfl := Option.some.inj hp
    refine W_ret ?_
    refine res1 rfl (ResOK.tmp rfl) ⟨rfl, rfl⟩ (MSub.nil _)

noncomputable def sl_Contains_stringstring (a0 : List ByteArray) (a1 : ByteArray) : Option Bool :=
  Option.bind (sl_Index_stringstring a0 a1) (fun y1 => some (decide (0 ≤ y1)))

theorem sl_Contains_stringstring_walk (w : World) (a0 : TL ByteArray) (a1 : ByteArray) (h0 : GT.rd w [] a0) (r : Bool) (hp : sl_Contains_stringstring (GT.dat a0) a1 = some r) : Spec Tryd.prog 96 [(TL.hdr a0), .string a1].toArray w [] (IsV (.bool r)) := by
  refine Spec.intro Tryd.func96 rfl Tryd.ntmps96 rfl ?_
  unfold sl_Contains_stringstring at hp
  try dsimp only [dat_pair, dat_int, dat_bool, dat_str, dat_ar] at hp
  refine W_seq ?_
  refine W_region ?_
  refine L_assign rfl rfl ?_
  refine L_nil ?_
  refine W_seq ?_
  refine W_region ?_
  refine L_move rfl rfl ?_
  refine L_move rfl rfl ?_
  have ho := hp; clear hp; obtain ⟨y1, hy1, hp⟩ := bind_any ho; clear ho
  refine L_callX rfl fn124 rfl (by exact fun w hw => sl_Index_stringstring_walk w a0 a1 (RdT.now (RdT.old h0) hw) _ hy1) ?_
  refine L_binV rfl rfl rfl bv_geq ?_
  refine L_assign rfl rfl ?_
  refine L_nil ?_
  obtain rfl := Option.some.inj hp
  refine W_ret ?_
  refine res1 rfl (ResOK.tmp rfl) ⟨rfl, rfl⟩ (MSub.nil _)

noncomputable def i_Shared (a0 : ByteArray) (a1 : ByteArray) : Option Int :=
  Option.bind (i_CutIds a0) (fun y1 => Option.bind (i_CutIds a1) (fun y2 => whileP (fun s3 : Int × Int => cond (decide (s3.2 < (y2.length : Int))) (Option.bind (idx y2 s3.2) (fun y5 => Option.bind (sl_Contains_stringstring y1 y5) (fun y6 => cond y6 (some (.inl ((IntKind.wrap .i64 (s3.1 + 1), IntKind.wrap .i64 (s3.2 + 1))))) (some (.inl ((s3.1, IntKind.wrap .i64 (s3.2 + 1)))))))) (Option.map .inr (some s3.1))) (0, 0)))

theorem i_Shared_walk (w : World) (a0 : ByteArray) (a1 : ByteArray) (hg0 : GT.rd w [] gV0) (r : Int) (hp : i_Shared a0 a1 = some r) : Spec Tryd.prog 55 [.string a0, .string a1].toArray w [] (IsV (.int .i64 r)) := by
  refine Spec.intro Tryd.func55 rfl Tryd.ntmps55 rfl ?_
  unfold i_Shared at hp
  try dsimp only [dat_pair, dat_int, dat_bool, dat_str, dat_ar] at hp
  refine W_seq ?_
  refine W_region ?_
  refine L_assign rfl rfl ?_
  refine L_nil ?_
  refine W_seq ?_
  refine W_region ?_
  refine L_move rfl rfl ?_
  have ho := hp; clear hp; obtain ⟨y1, hy1, hp⟩ := bind_any ho; clear ho
  refine L_callR rfl fn53 rfl (by exact fun w hw => i_CutIds_walk w a0 (RdT.now (RdT.old hg0) hw) _ hy1) ?_
  rintro vy1 My1 ⟨y1x0, hvy1, hdy1, rfl⟩
  subst hvy1
  subst hdy1
  simp only [cells_pair, cells_int, cells_bool, cells_str, cells_TL, List.cons_append, List.nil_append]
  try dsimp only [dat_pair, dat_int, dat_bool, dat_str, dat_ar] at hp
  refine L_assign rfl rfl ?_
  refine L_nil ?_
  refine W_seq ?_
  refine W_region ?_
  refine L_assign rfl rfl ?_
  refine L_nil ?_
  refine W_seq ?_
  refine W_seq ?_
  refine W_region ?_
  refine L_move rfl rfl ?_
  have ho := hp; clear hp; obtain ⟨y2, hy2, hp⟩ := bind_any ho; clear ho
  refine L_callR rfl fn53 rfl (by exact fun w hw => i_CutIds_walk w a1 (RdT.now (RdT.old hg0) hw) _ hy2) ?_
  rintro vy2 My2 ⟨y2x0, hvy2, hdy2, rfl⟩
  subst hvy2
  subst hdy2
  simp only [cells_pair, cells_int, cells_bool, cells_str, cells_TL, List.cons_append, List.nil_append]
  try dsimp only [dat_pair, dat_int, dat_bool, dat_str, dat_ar] at hp
  refine L_lenP (X := y2x0) rfl rfl el73 ?_
  refine L_move rfl rfl ?_
  refine L_nil ?_
  refine W_block ?_
  refine W_while (σ := Int × Int) GT.dat (fun ((v3_0, v3_1) : Int × Int) => [(6, .int .i64 v3_0), (14, .int .i64 v3_1)]) (fun ((v3_0, v3_1) : Int × Int) => []) [(5, _), (12, _), (13, _)] [treeH y1x0, treeH y2x0] (0, 0) hp (Sub.cons rfl (Sub.cons rfl (Sub.cons rfl (Sub.cons rfl (Sub.cons rfl (Sub.nil _)))))) (MSub.cons (by first | (with_reducible repeat (first | exact Pick.here _ | apply Pick.there)); done | (repeat (first | exact Pick.here _ | apply Pick.there))) (MSub.cons (by first | (with_reducible repeat (first | exact Pick.here _ | apply Pick.there)); done | (repeat (first | exact Pick.here _ | apply Pick.there))) (MSub.nil _))) ?_
  clear hp
  rintro ⟨v3_0, v3_1⟩ x3 hp hx3
  try dsimp only [dat_pair, dat_int, dat_bool, dat_str, dat_ar] at hp
  refine W_weaken (l' := [(5, _), (6, _), (12, _), (13, _), (14, _)]) (Sub.cons rfl (Sub.cons rfl (Sub.cons rfl (Sub.cons rfl (Sub.cons rfl (Sub.nil _)))))) (M' := [_, _]) (MSub.cons (by first | (with_reducible repeat (first | exact Pick.here _ | apply Pick.there)); done | (repeat (first | exact Pick.here _ | apply Pick.there))) (MSub.cons (by first | (with_reducible repeat (first | exact Pick.here _ | apply Pick.there)); done | (repeat (first | exact Pick.here _ | apply Pick.there))) (MSub.nil _))) ?_
  refine W_seq ?_
  refine W_region ?_
  refine L_binV rfl rfl rfl bv_lss ?_
  refine L_nil ?_
  refine W_seq ?_
  refine W_weaken (l' := [(5, _), (6, _), (12, _), (13, _), (14, _), (15, _)]) (Sub.cons rfl (Sub.cons rfl (Sub.cons rfl (Sub.cons rfl (Sub.cons rfl (Sub.cons rfl (Sub.nil _))))))) (MSub.refl _) ?_
  refine W_cond rfl (fun hc4 => ?_) (fun hc4 => ?_)
  · skip
    replace hp := cond_t hc4 hp
    refine W_skip ?_
    refine W_seq ?_
    refine W_block ?_
    refine W_seq ?_
    refine W_region ?_
    have ho := hp; clear hp; obtain ⟨u5, hy5, hp⟩ := idx_bind ho; clear ho
    refine L_idxA (X := y2x0) rfl rfl rfl el73 (RdT.tree (by first | (with_reducible repeat (first | exact List.Mem.head _ | apply List.Mem.tail)); done | (repeat (first | exact List.Mem.head _ | apply List.Mem.tail)))) hy5 ?_
    refine L_load0 rfl rfl (RdT.at (RdT.tree (by first | (with_reducible repeat (first | exact List.Mem.head _ | apply List.Mem.tail)); done | (repeat (first | exact List.Mem.head _ | apply List.Mem.tail)))) (hy5).2) one9 rfl ?_
    refine L_assign rfl rfl ?_
    refine L_nil ?_
    refine W_seq ?_
    refine W_region ?_
    refine L_move rfl rfl ?_
    refine L_move rfl rfl ?_
    have ho := hp; clear hp; obtain ⟨y6, hy6, hp⟩ := bind_any ho; clear ho
    refine L_callX rfl fn96 rfl (by exact fun w hw => sl_Contains_stringstring_walk w y1x0 u5 (RdT.now (RdT.tree (by first | (with_reducible repeat (first | exact List.Mem.head _ | apply List.Mem.tail)); done | (repeat (first | exact List.Mem.head _ | apply List.Mem.tail)))) hw) _ hy6) ?_
    refine L_nil ?_
    refine W_weaken (l' := [(5, _), (6, _), (12, _), (13, _), (14, _), (20, _)]) (Sub.cons rfl (Sub.cons rfl (Sub.cons rfl (Sub.cons rfl (Sub.cons rfl (Sub.cons rfl (Sub.nil _))))))) (MSub.refl _) ?_
    refine W_cond rfl (fun hc7 => ?_) (fun hc7 => ?_)
    · skip
      replace hp := cond_t hc7 hp
      refine W_region ?_
      refine L_move rfl rfl ?_
      refine L_binV rfl rfl rfl bv_add ?_
      refine L_assign rfl rfl ?_
      refine L_nil ?_
      refine W_region ?_
      refine L_binV rfl rfl rfl bv_add ?_
      refine L_move rfl rfl ?_
      refine L_nil ?_
      exact ⟨(IntKind.wrap .i64 (v3_0 + 1), IntKind.wrap .i64 (v3_1 + 1)), (Sub.cons rfl (Sub.cons rfl (Sub.cons rfl (Sub.cons rfl (Sub.cons rfl (Sub.nil _)))))), (Arr.sub (MSub.cons (by first | (with_reducible repeat (first | exact Pick.here _ | apply Pick.there)); done | (repeat (first | exact Pick.here _ | apply Pick.there))) (MSub.cons (by first | (with_reducible repeat (first | exact Pick.here _ | apply Pick.there)); done | (repeat (first | exact Pick.here _ | apply Pick.there))) (MSub.nil _)))), some_eq hp⟩
    · skip
      replace hp := cond_f hc7 hp
      refine W_skip ?_
      refine W_region ?_
      refine L_binV rfl rfl rfl bv_add ?_
      refine L_move rfl rfl ?_
      refine L_nil ?_
      exact ⟨(v3_0, IntKind.wrap .i64 (v3_1 + 1)), (Sub.cons rfl (Sub.cons rfl (Sub.cons rfl (Sub.cons rfl (Sub.cons rfl (Sub.nil _)))))), (Arr.sub (MSub.cons (by first | (with_reducible repeat (first | exact Pick.here _ | apply Pick.there)); done | (repeat (first | exact Pick.here _ | apply Pick.there))) (MSub.cons (by first | (with_reducible repeat (first | exact Pick.here _ | apply Pick.there)); done | (repeat (first | exact Pick.here _ | apply Pick.there))) (MSub.nil _)))), some_eq hp⟩
  · skip
    replace hp := cond_f hc4 hp
    refine W_exit ?_
    have ho := hp; clear hp; obtain ⟨a8, hp, hx_a8⟩ := map_any ho; clear ho
    obtain rfl := hx3 _ hx_a8
    refine W_seq ?_
    refine W_region ?_
    refine L_move rfl rfl ?_
    refine L_assign rfl rfl ?_
    refine L_nil ?_
    obtain rfl := Option.some.inj hp
    refine W_ret ?_
    refine res1 rfl (ResOK.tmp rfl) ⟨rfl, rfl⟩ (MSub.nil _)

noncomputable def s_l15In (a0 : List ByteArray) (a1 : ByteArray) : Option Bool :=
  whileP (fun s1 : Int => cond (decide (s1 < (a0.length : Int))) (Option.bind (idx a0 s1) (fun y3 => cond (decide (y3 = a1)) (Option.map .inr (some true)) (some (.inl (IntKind.wrap .i64 (s1 + 1)))))) (Option.map .inr (some false))) 0

theorem s_l15In_walk (w : World) (a0 : TL ByteArray) (a1 : ByteArray) (h0 : GT.rd w [] a0) (r : Bool) (hp : s_l15In (GT.dat a0) a1 = some r) : Spec Tryd.prog 97 [(TL.hdr a0), .string a1].toArray w [] (IsV (.bool r)) := by
  refine Spec.intro Tryd.func97 rfl Tryd.ntmps97 rfl ?_
  unfold s_l15In at hp
  try dsimp only [dat_pair, dat_int, dat_bool, dat_str, dat_ar] at hp
  refine W_seq ?_
  refine W_region ?_
  refine L_assign rfl rfl ?_
  refine L_nil ?_
  refine W_seq ?_
  refine W_seq ?_
  refine W_region ?_
  refine L_assign rfl rfl ?_
  refine L_nil ?_
  refine W_block ?_
  refine W_while (σ := Int) GT.dat (fun (v1_0 : Int) => [(5, .int .i64 v1_0)]) (fun (v1_0 : Int) => []) [(0, _), (1, _)] [] 0 hp (Sub.cons rfl (Sub.cons rfl (Sub.cons rfl (Sub.nil _)))) (MSub.nil _) ?_
  clear hp
  rintro v1_0 x1 hp hx1
  try dsimp only [dat_pair, dat_int, dat_bool, dat_str, dat_ar] at hp
  refine W_weaken (l' := [(0, _), (1, _), (5, _)]) (Sub.cons rfl (Sub.cons rfl (Sub.cons rfl (Sub.nil _)))) (M' := []) (MSub.nil _) ?_
  refine W_seq ?_
  refine W_seq ?_
  refine W_region ?_
  refine L_move rfl rfl ?_
  refine L_move rfl rfl ?_
  refine L_lenP (X := a0) rfl rfl el73 ?_
  refine L_binV rfl rfl rfl bv_lss ?_
  refine L_nil ?_
  refine W_weaken (l' := [(0, _), (1, _), (5, _), (9, _)]) (Sub.cons rfl (Sub.cons rfl (Sub.cons rfl (Sub.cons rfl (Sub.nil _))))) (MSub.refl _) ?_
  refine W_cond rfl (fun hc2 => ?_) (fun hc2 => ?_)
  · skip
    replace hp := cond_t hc2 hp
    refine W_skip ?_
    refine W_seq ?_
    refine W_block ?_
    refine W_seq ?_
    refine W_region ?_
    refine L_move rfl rfl ?_
    refine L_move rfl rfl ?_
    have ho := hp; clear hp; obtain ⟨u3, hy3, hp⟩ := idx_bind ho; clear ho
    refine L_idxA (X := a0) rfl rfl rfl el73 (RdT.old h0) hy3 ?_
    refine L_load0 rfl rfl (RdT.at (RdT.old h0) (hy3).2) one9 rfl ?_
    refine L_move rfl rfl ?_
    refine L_binV rfl rfl rfl bv_seql ?_
    refine L_nil ?_
    refine W_weaken (l' := [(0, _), (1, _), (5, _), (17, _)]) (Sub.cons rfl (Sub.cons rfl (Sub.cons rfl (Sub.cons rfl (Sub.nil _))))) (MSub.refl _) ?_
    refine W_cond rfl (fun hc4 => ?_) (fun hc4 => ?_)
    · skip
      replace hp := cond_t hc4 hp
      refine W_seq ?_
      refine W_region ?_
      refine L_assign rfl rfl ?_
      refine L_nil ?_
      have ho := hp; clear hp; obtain ⟨a5, hp, hx_a5⟩ := map_any ho; clear ho
      obtain rfl := hx1 _ hx_a5
      obtain rfl := Option.some.inj hp
      refine W_ret ?_
      refine res1 rfl (ResOK.tmp rfl) ⟨rfl, rfl⟩ (MSub.nil _)
    · skip
      replace hp := cond_f hc4 hp
      refine W_skip ?_
      refine W_region ?_
      refine L_move rfl rfl ?_
      refine L_binV rfl rfl rfl bv_add ?_
      refine L_assign rfl rfl ?_
      refine L_nil ?_
      exact ⟨IntKind.wrap .i64 (v1_0 + 1), (Sub.cons rfl (Sub.cons rfl (Sub.cons rfl (Sub.nil _)))), (Arr.sub (MSub.nil _)), some_eq hp⟩
  · skip
    replace hp := cond_f hc2 hp
    refine W_exit ?_
    have ho := hp; clear hp; obtain ⟨a6, hp, hx_a6⟩ := map_any ho; clear ho
    obtain rfl := hx1 _ hx_a6
    refine W_seq ?_
    refine W_region ?_
    refine L_assign rfl rfl ?_
    refine L_nil ?_
    obtain rfl := Option.some.inj hp
    refine W_ret ?_
    refine res1 rfl (ResOK.tmp rfl) ⟨rfl, rfl⟩ (MSub.nil _)

noncomputable def s_Shared (a0 : ByteArray) (a1 : ByteArray) : Option Int :=
  Option.bind (s_CutIds a0) (fun y1 => Option.bind (s_CutIds a1) (fun y2 => whileP (fun s3 : Int × Int => cond (decide (s3.2 < (y2.length : Int))) (Option.bind (idx y2 s3.2) (fun y5 => Option.bind (s_l15In y1 y5) (fun y6 => cond y6 (some (.inl ((IntKind.wrap .i64 (s3.1 + 1), IntKind.wrap .i64 (s3.2 + 1))))) (some (.inl ((s3.1, IntKind.wrap .i64 (s3.2 + 1)))))))) (Option.map .inr (some s3.1))) (0, 0)))

theorem s_Shared_walk (w : World) (a0 : ByteArray) (a1 : ByteArray)  (r : Int) (hp : s_Shared a0 a1 = some r) : Spec Tryd.prog 56 [.string a0, .string a1].toArray w [] (IsV (.int .i64 r)) := by
  refine Spec.intro Tryd.func56 rfl Tryd.ntmps56 rfl ?_
  unfold s_Shared at hp
  try dsimp only [dat_pair, dat_int, dat_bool, dat_str, dat_ar] at hp
  refine W_seq ?_
  refine W_region ?_
  refine L_assign rfl rfl ?_
  refine L_nil ?_
  refine W_seq ?_
  refine W_region ?_
  refine L_move rfl rfl ?_
  have ho := hp; clear hp; obtain ⟨y1, hy1, hp⟩ := bind_any ho; clear ho
  refine L_callR rfl fn54 rfl (by exact fun w hw => s_CutIds_walk w a0  _ hy1) ?_
  rintro vy1 My1 ⟨y1x0, hvy1, hdy1, rfl⟩
  subst hvy1
  subst hdy1
  simp only [cells_pair, cells_int, cells_bool, cells_str, cells_TL, List.cons_append, List.nil_append]
  try dsimp only [dat_pair, dat_int, dat_bool, dat_str, dat_ar] at hp
  refine L_assign rfl rfl ?_
  refine L_nil ?_
  refine W_seq ?_
  refine W_region ?_
  refine L_move rfl rfl ?_
  have ho := hp; clear hp; obtain ⟨y2, hy2, hp⟩ := bind_any ho; clear ho
  refine L_callR rfl fn54 rfl (by exact fun w hw => s_CutIds_walk w a1  _ hy2) ?_
  rintro vy2 My2 ⟨y2x0, hvy2, hdy2, rfl⟩
  subst hvy2
  subst hdy2
  simp only [cells_pair, cells_int, cells_bool, cells_str, cells_TL, List.cons_append, List.nil_append]
  try dsimp only [dat_pair, dat_int, dat_bool, dat_str, dat_ar] at hp
  refine L_assign rfl rfl ?_
  refine L_nil ?_
  refine W_seq ?_
  refine W_region ?_
  refine L_assign rfl rfl ?_
  refine L_nil ?_
  refine W_seq ?_
  refine W_seq ?_
  refine W_region ?_
  refine L_assign rfl rfl ?_
  refine L_nil ?_
  refine W_block ?_
  refine W_while (σ := Int × Int) GT.dat (fun ((v3_0, v3_1) : Int × Int) => [(7, .int .i64 v3_0), (8, .int .i64 v3_1)]) (fun ((v3_0, v3_1) : Int × Int) => []) [(5, _), (6, _)] [treeH y1x0, treeH y2x0] (0, 0) hp (Sub.cons rfl (Sub.cons rfl (Sub.cons rfl (Sub.cons rfl (Sub.nil _))))) (MSub.cons (by first | (with_reducible repeat (first | exact Pick.here _ | apply Pick.there)); done | (repeat (first | exact Pick.here _ | apply Pick.there))) (MSub.cons (by first | (with_reducible repeat (first | exact Pick.here _ | apply Pick.there)); done | (repeat (first | exact Pick.here _ | apply Pick.there))) (MSub.nil _))) ?_
  clear hp
  rintro ⟨v3_0, v3_1⟩ x3 hp hx3
  try dsimp only [dat_pair, dat_int, dat_bool, dat_str, dat_ar] at hp
  refine W_weaken (l' := [(5, _), (6, _), (7, _), (8, _)]) (Sub.cons rfl (Sub.cons rfl (Sub.cons rfl (Sub.cons rfl (Sub.nil _))))) (M' := [_, _]) (MSub.cons (by first | (with_reducible repeat (first | exact Pick.here _ | apply Pick.there)); done | (repeat (first | exact Pick.here _ | apply Pick.there))) (MSub.cons (by first | (with_reducible repeat (first | exact Pick.here _ | apply Pick.there)); done | (repeat (first | exact Pick.here _ | apply Pick.there))) (MSub.nil _))) ?_
  refine W_seq ?_
  refine W_seq ?_
  refine W_region ?_
  refine L_move rfl rfl ?_
  refine L_move rfl rfl ?_
  refine L_lenP (X := y2x0) rfl rfl el73 ?_
  refine L_binV rfl rfl rfl bv_lss ?_
  refine L_nil ?_
  refine W_weaken (l' := [(5, _), (6, _), (7, _), (8, _), (16, _)]) (Sub.cons rfl (Sub.cons rfl (Sub.cons rfl (Sub.cons rfl (Sub.cons rfl (Sub.nil _)))))) (MSub.refl _) ?_
  refine W_cond rfl (fun hc4 => ?_) (fun hc4 => ?_)
  · skip
    replace hp := cond_t hc4 hp
    refine W_skip ?_
    refine W_seq ?_
    refine W_block ?_
    refine W_seq ?_
    refine W_region ?_
    refine L_move rfl rfl ?_
    refine L_move rfl rfl ?_
    refine L_move rfl rfl ?_
    have ho := hp; clear hp; obtain ⟨u5, hy5, hp⟩ := idx_bind ho; clear ho
    refine L_idxA (X := y2x0) rfl rfl rfl el73 (RdT.tree (by first | (with_reducible repeat (first | exact List.Mem.head _ | apply List.Mem.tail)); done | (repeat (first | exact List.Mem.head _ | apply List.Mem.tail)))) hy5 ?_
    refine L_load0 rfl rfl (RdT.at (RdT.tree (by first | (with_reducible repeat (first | exact List.Mem.head _ | apply List.Mem.tail)); done | (repeat (first | exact List.Mem.head _ | apply List.Mem.tail)))) (hy5).2) one9 rfl ?_
    have ho := hp; clear hp; obtain ⟨y6, hy6, hp⟩ := bind_any ho; clear ho
    refine L_callX rfl fn97 rfl (by exact fun w hw => s_l15In_walk w y1x0 u5 (RdT.now (RdT.tree (by first | (with_reducible repeat (first | exact List.Mem.head _ | apply List.Mem.tail)); done | (repeat (first | exact List.Mem.head _ | apply List.Mem.tail)))) hw) _ hy6) ?_
    refine L_nil ?_
    refine W_weaken (l' := [(5, _), (6, _), (7, _), (8, _), (24, _)]) (Sub.cons rfl (Sub.cons rfl (Sub.cons rfl (Sub.cons rfl (Sub.cons rfl (Sub.nil _)))))) (MSub.refl _) ?_
    refine W_cond rfl (fun hc7 => ?_) (fun hc7 => ?_)
    · skip
      replace hp := cond_t hc7 hp
      refine W_region ?_
      refine L_move rfl rfl ?_
      refine L_binV rfl rfl rfl bv_add ?_
      refine L_assign rfl rfl ?_
      refine L_nil ?_
      refine W_region ?_
      refine L_move rfl rfl ?_
      refine L_binV rfl rfl rfl bv_add ?_
      refine L_assign rfl rfl ?_
      refine L_nil ?_
      exact ⟨(IntKind.wrap .i64 (v3_0 + 1), IntKind.wrap .i64 (v3_1 + 1)), (Sub.cons rfl (Sub.cons rfl (Sub.cons rfl (Sub.cons rfl (Sub.nil _))))), (Arr.sub (MSub.cons (by first | (with_reducible repeat (first | exact Pick.here _ | apply Pick.there)); done | (repeat (first | exact Pick.here _ | apply Pick.there))) (MSub.cons (by first | (with_reducible repeat (first | exact Pick.here _ | apply Pick.there)); done | (repeat (first | exact Pick.here _ | apply Pick.there))) (MSub.nil _)))), some_eq hp⟩
    · skip
      replace hp := cond_f hc7 hp
      refine W_skip ?_
      refine W_region ?_
      refine L_move rfl rfl ?_
      refine L_binV rfl rfl rfl bv_add ?_
      refine L_assign rfl rfl ?_
      refine L_nil ?_
      exact ⟨(v3_0, IntKind.wrap .i64 (v3_1 + 1)), (Sub.cons rfl (Sub.cons rfl (Sub.cons rfl (Sub.cons rfl (Sub.nil _))))), (Arr.sub (MSub.cons (by first | (with_reducible repeat (first | exact Pick.here _ | apply Pick.there)); done | (repeat (first | exact Pick.here _ | apply Pick.there))) (MSub.cons (by first | (with_reducible repeat (first | exact Pick.here _ | apply Pick.there)); done | (repeat (first | exact Pick.here _ | apply Pick.there))) (MSub.nil _)))), some_eq hp⟩
  · skip
    replace hp := cond_f hc4 hp
    refine W_exit ?_
    have ho := hp; clear hp; obtain ⟨a8, hp, hx_a8⟩ := map_any ho; clear ho
    obtain rfl := hx3 _ hx_a8
    refine W_seq ?_
    refine W_region ?_
    refine L_move rfl rfl ?_
    refine L_assign rfl rfl ?_
    refine L_nil ?_
    obtain rfl := Option.some.inj hp
    refine W_ret ?_
    refine res1 rfl (ResOK.tmp rfl) ⟨rfl, rfl⟩ (MSub.nil _)

noncomputable def w_FnCut (a0 : List UInt8) : Option Bool :=
  Option.bind (w_big a0) (fun y1 => cond y1 (some true) (Option.bind (s_DrawCutData a0) (fun y3 => Option.bind (i_CutData y3) (fun y4 => Option.bind (s_CutData y3) (fun y5 => Option.bind (w_sameTexts y4 y5) (fun y6 => cond (!y6) (some false) (cond (decide (390 < (y3.size : Int))) (some true) (whileP (fun s9 : Int => cond (decide (s9 < (y4.length : Int))) (Option.bind (idx y4 s9) (fun y11 => gb (!(decide (12 < (y11.size : Int)))) (idx y4 s9) (fun y12 => gb (!((decide (12 < (y11.size : Int))) || ((decide ((y12.size : Int) < 3)) && (decide (s9 < IntKind.wrap .i64 ((y4.length : Int) - 1)))))) (idx y4 s9) (fun y13 => cond (((decide (12 < (y11.size : Int))) || ((decide ((y12.size : Int) < 3)) && (decide (s9 < IntKind.wrap .i64 ((y4.length : Int) - 1))))) || (decide ((y13.size : Int) = 0))) (Option.map .inr (some false)) (some (.inl (IntKind.wrap .i64 (s9 + 1)))))))) (Option.map .inr (Option.bind (w_at a0 0) (fun y17 => Option.bind (w_at a0 1) (fun y18 => Option.bind (u8P (IntKind.wrap .u8 y17)) (fun y19 => Option.bind (u8P (IntKind.wrap .u8 y18)) (fun y20 => Option.bind (some ([y19, y20] : List UInt8)) (fun y21 => Option.bind (catP y3 (strP y21)) (fun y23 => Option.bind (i_CutData y23) (fun y24 => whileP (fun s25 : Int => cond (decide (s25 < IntKind.wrap .i64 ((y4.length : Int) - 1))) (Option.bind (idx y24 s25) (fun y27 => Option.bind (idx y4 s25) (fun y28 => cond (!decide (y27 = y28)) (Option.map .inr (some false)) (some (.inl (IntKind.wrap .i64 (s25 + 1))))))) (Option.map .inr (Option.bind (s_DrawShared a0) (fun y32 => Option.bind (i_Joined y4) (fun y33 => gb (decide (y33 = y3)) (i_Joined y24) (fun y34 => gb ((decide (y33 = y3)) && (decide (y34 = y23))) (i_CutIds y3) (fun y35 => gb ((decide (y33 = y3)) && (decide (y34 = y23))) (s_CutIds y3) (fun y36 => gb ((decide (y33 = y3)) && (decide (y34 = y23))) (w_sameTexts y35 y36) (fun y37 => gb (((decide (y33 = y3)) && (decide (y34 = y23))) && y37) (i_Shared y32.1 y32.2) (fun y38 => gb (((decide (y33 = y3)) && (decide (y34 = y23))) && y37) (s_Shared y32.1 y32.2) (fun y39 => gb ((((decide (y33 = y3)) && (decide (y34 = y23))) && y37) && (decide (y38 = y39))) (i_Shared y3 y3) (fun y40 => some (((((decide (y33 = y3)) && (decide (y34 = y23))) && y37) && (decide (y38 = y39))) && (decide (y40 = (y4.length : Int)))))))))))))))) 0)))))))))) 0))))))))

theorem w_FnCut_walk (w : World) (a0 : TL UInt8) (h0 : GT.rd w [] a0) (hg0 : GT.rd w [] gV0) (r : Bool) (hp : w_FnCut (GT.dat a0) = some r) : Spec Tryd.prog 12 [(TL.hdr a0)].toArray w [] (IsV (.bool r)) := by
  refine Spec.intro Tryd.func12 rfl Tryd.ntmps12 rfl ?_
  unfold w_FnCut at hp
  try dsimp only [dat_pair, dat_int, dat_bool, dat_str, dat_ar] at hp
  refine W_seq ?_
  refine W_region ?_
  refine L_assign rfl rfl ?_
  refine L_nil ?_
  refine W_seq ?_
  refine W_seq ?_
  refine W_region ?_
  refine L_move rfl rfl ?_
  have ho := hp; clear hp; obtain ⟨y1, hy1, hp⟩ := bind_any ho; clear ho
  refine L_callX rfl fn38 rfl (by exact fun w hw => w_big_walk w a0 (RdT.now (RdT.old h0) hw) _ hy1) ?_
  refine L_nil ?_
  refine W_weaken (l' := [(0, _), (12, _)]) (Sub.cons rfl (Sub.cons rfl (Sub.nil _))) (MSub.refl _) ?_
  refine W_cond rfl (fun hc2 => ?_) (fun hc2 => ?_)
  · skip
    replace hp := cond_t hc2 hp
    refine W_seq ?_
    refine W_region ?_
    refine L_assign rfl rfl ?_
    refine L_nil ?_
    obtain rfl := Option.some.inj hp
    refine W_ret ?_
    refine res1 rfl (ResOK.tmp rfl) ⟨rfl, rfl⟩ (MSub.nil _)
  · skip
    replace hp := cond_f hc2 hp
    refine W_skip ?_
    refine W_seq ?_
    refine W_region ?_
    refine L_move rfl rfl ?_
    have ho := hp; clear hp; obtain ⟨y3, hy3, hp⟩ := bind_any ho; clear ho
    refine L_callX rfl fn46 rfl (by exact fun w hw => s_DrawCutData_walk w a0 (RdT.now (RdT.old h0) hw) _ hy3) ?_
    refine L_assign rfl rfl ?_
    refine L_nil ?_
    refine W_seq ?_
    refine W_region ?_
    refine L_move rfl rfl ?_
    have ho := hp; clear hp; obtain ⟨y4, hy4, hp⟩ := bind_any ho; clear ho
    refine L_callR rfl fn47 rfl (by exact fun w hw => i_CutData_walk w y3  _ hy4) ?_
    rintro vy4 My4 ⟨y4x0, hvy4, hdy4, rfl⟩
    subst hvy4
    subst hdy4
    simp only [cells_pair, cells_int, cells_bool, cells_str, cells_TL, List.cons_append, List.nil_append]
    try dsimp only [dat_pair, dat_int, dat_bool, dat_str, dat_ar] at hp
    refine L_assign rfl rfl ?_
    refine L_nil ?_
    refine W_seq ?_
    refine W_seq ?_
    refine W_region ?_
    refine L_move rfl rfl ?_
    refine L_move rfl rfl ?_
    have ho := hp; clear hp; obtain ⟨y5, hy5, hp⟩ := bind_any ho; clear ho
    refine L_callR rfl fn49 rfl (by exact fun w hw => s_CutData_walk w y3  _ hy5) ?_
    rintro vy5 My5 ⟨y5x0, hvy5, hdy5, rfl⟩
    subst hvy5
    subst hdy5
    simp only [cells_pair, cells_int, cells_bool, cells_str, cells_TL, List.cons_append, List.nil_append]
    try dsimp only [dat_pair, dat_int, dat_bool, dat_str, dat_ar] at hp
    have ho := hp; clear hp; obtain ⟨y6, hy6, hp⟩ := bind_any ho; clear ho
    refine L_callX rfl fn48 rfl (by exact fun w hw => w_sameTexts_walk w y4x0 y5x0 (RdT.now (RdT.tree (by first | (with_reducible repeat (first | exact List.Mem.head _ | apply List.Mem.tail)); done | (repeat (first | exact List.Mem.head _ | apply List.Mem.tail)))) hw) (RdT.now (RdT.tree (by first | (with_reducible repeat (first | exact List.Mem.head _ | apply List.Mem.tail)); done | (repeat (first | exact List.Mem.head _ | apply List.Mem.tail)))) hw) _ hy6) ?_
    refine L_not rfl rfl ?_
    refine L_nil ?_
    refine W_weaken (l' := [(0, _), (3, _), (4, _), (21, _)]) (Sub.cons rfl (Sub.cons rfl (Sub.cons rfl (Sub.cons rfl (Sub.nil _))))) (MSub.refl _) ?_
    refine W_cond rfl (fun hc7 => ?_) (fun hc7 => ?_)
    · skip
      replace hp := cond_t hc7 hp
      refine W_seq ?_
      refine W_region ?_
      refine L_assign rfl rfl ?_
      refine L_nil ?_
      obtain rfl := Option.some.inj hp
      refine W_ret ?_
      refine res1 rfl (ResOK.tmp rfl) ⟨rfl, rfl⟩ (MSub.nil _)
    · skip
      replace hp := cond_f hc7 hp
      refine W_skip ?_
      refine W_seq ?_
      refine W_seq ?_
      refine W_region ?_
      refine L_move rfl rfl ?_
      refine L_lenT rfl rfl str9 ?_
      refine L_binV rfl rfl rfl bv_gtr ?_
      refine L_nil ?_
      refine W_weaken (l' := [(0, _), (3, _), (4, _), (24, _)]) (Sub.cons rfl (Sub.cons rfl (Sub.cons rfl (Sub.cons rfl (Sub.nil _))))) (MSub.refl _) ?_
      refine W_cond rfl (fun hc8 => ?_) (fun hc8 => ?_)
      · skip
        replace hp := cond_t hc8 hp
        refine W_seq ?_
        refine W_region ?_
        refine L_assign rfl rfl ?_
        refine L_nil ?_
        obtain rfl := Option.some.inj hp
        refine W_ret ?_
        refine res1 rfl (ResOK.tmp rfl) ⟨rfl, rfl⟩ (MSub.nil _)
      · skip
        replace hp := cond_f hc8 hp
        refine W_skip ?_
        refine W_seq ?_
        refine W_seq ?_
        refine W_region ?_
        refine L_assign rfl rfl ?_
        refine L_nil ?_
        refine W_block ?_
        refine W_while (σ := Int) GT.dat (fun (v9_0 : Int) => [(5, .int .i64 v9_0)]) (fun (v9_0 : Int) => []) [(0, _), (3, _), (4, _)] [treeH y4x0] 0 hp (Sub.cons rfl (Sub.cons rfl (Sub.cons rfl (Sub.cons rfl (Sub.nil _))))) (MSub.cons (by first | (with_reducible repeat (first | exact Pick.here _ | apply Pick.there)); done | (repeat (first | exact Pick.here _ | apply Pick.there))) (MSub.nil _)) ?_
        clear hp
        rintro v9_0 x9 hp hx9
        try dsimp only [dat_pair, dat_int, dat_bool, dat_str, dat_ar] at hp
        refine W_weaken (l' := [(0, _), (3, _), (4, _), (5, _)]) (Sub.cons rfl (Sub.cons rfl (Sub.cons rfl (Sub.cons rfl (Sub.nil _))))) (M' := [_]) (MSub.cons (by first | (with_reducible repeat (first | exact Pick.here _ | apply Pick.there)); done | (repeat (first | exact Pick.here _ | apply Pick.there))) (MSub.nil _)) ?_
        refine W_seq ?_
        refine W_seq ?_
        refine W_region ?_
        refine L_move rfl rfl ?_
        refine L_move rfl rfl ?_
        refine L_lenP (X := y4x0) rfl rfl el73 ?_
        refine L_binV rfl rfl rfl bv_lss ?_
        refine L_nil ?_
        refine W_weaken (l' := [(0, _), (3, _), (4, _), (5, _), (28, _)]) (Sub.cons rfl (Sub.cons rfl (Sub.cons rfl (Sub.cons rfl (Sub.cons rfl (Sub.nil _)))))) (MSub.refl _) ?_
        refine W_cond rfl (fun hc10 => ?_) (fun hc10 => ?_)
        · skip
          replace hp := cond_t hc10 hp
          refine W_skip ?_
          refine W_seq ?_
          refine W_block ?_
          refine W_seq ?_
          have ho := hp; clear hp; obtain ⟨u11, hy11, hp⟩ := idx_bind ho; clear ho
          have ho := hp; clear hp; obtain ⟨u12, hy12, hp⟩ := idx_gb ho; clear ho
          have ho := hp; clear hp; obtain ⟨u13, hy13, hp⟩ := idx_gb ho; clear ho
          refine W_D0 [59] mix (by kernel_rfl) rfl ?_
          refine D_move GC.none (OpV.t rfl) ?_
          refine D_move GC.none (OpV.t rfl) ?_
          refine D_idxA (X := y4x0) GC.none (OpV.t rfl) (OpV.t rfl) el73 (RdT.tree (by first | (with_reducible repeat (first | exact List.Mem.head _ | apply List.Mem.tail)); done | (repeat (first | exact List.Mem.head _ | apply List.Mem.tail)))) (fun _ => hy11) ?_
          refine D_load0 GC.none (OpV.t rfl) (fun hg => RdT.at (RdT.tree (by first | (with_reducible repeat (first | exact List.Mem.head _ | apply List.Mem.tail)); done | (repeat (first | exact List.Mem.head _ | apply List.Mem.tail)))) (hy11).2) one9 rfl ?_
          refine D_lenT GC.none (OpV.t rfl) str9 ?_
          refine D_bin GC.none (OpV.t rfl) OpV.c (fun hg => bv_gtr) ?_
          refine D_move GC.none (OpV.t rfl) ?_
          refine D_move (GC.some rfl rfl) (OpV.t rfl) ?_
          refine D_move (GC.some rfl rfl) (OpV.t rfl) ?_
          refine D_idxA (X := y4x0) (GC.some rfl rfl) (OpV.s rfl) (OpV.s rfl) el73 (RdT.tree (by first | (with_reducible repeat (first | exact List.Mem.head _ | apply List.Mem.tail)); done | (repeat (first | exact List.Mem.head _ | apply List.Mem.tail)))) (fun hg => hy12 (gnot hg.2)) ?_
          refine D_load0 (GC.some rfl rfl) (OpV.s rfl) (fun hg => RdT.at (RdT.tree (by first | (with_reducible repeat (first | exact List.Mem.head _ | apply List.Mem.tail)); done | (repeat (first | exact List.Mem.head _ | apply List.Mem.tail)))) (hy12 (gnot hg.2)).2) one9 rfl ?_
          refine D_lenT (GC.some rfl rfl) (OpV.s rfl) str9 ?_
          refine D_bin (GC.some rfl rfl) (OpV.s rfl) OpV.c (fun hg => bv_lss) ?_
          refine D_move (GC.some rfl rfl) (OpV.s rfl) ?_
          refine D_move (GC.some rfl rfl) (OpV.t rfl) ?_
          refine D_move (GC.some rfl rfl) (OpV.t rfl) ?_
          refine D_lenP (X := y4x0) (GC.some rfl rfl) (OpV.s rfl) el73 ?_
          refine D_bin (GC.some rfl rfl) (OpV.s rfl) OpV.c (fun hg => bv_sub) ?_
          refine D_bin (GC.some rfl rfl) (OpV.s rfl) (OpV.s rfl) (fun hg => bv_lss) ?_
          refine D_and (cy := _) (GC.some rfl rfl) (OpV.s rfl) (OpV.s rfl) (fun h hb => ⟨h, hb⟩) ?_
          refine D_or (cy := _) GC.none (OpV.t rfl) (OpV.s rfl) (fun h hb => ⟨h, hb⟩) ?_
          refine D_move GC.none (OpV.t rfl) ?_
          refine D_move (GC.some rfl rfl) (OpV.t rfl) ?_
          refine D_move (GC.some rfl rfl) (OpV.t rfl) ?_
          refine D_idxA (X := y4x0) (GC.some rfl rfl) (OpV.s rfl) (OpV.s rfl) el73 (RdT.tree (by first | (with_reducible repeat (first | exact List.Mem.head _ | apply List.Mem.tail)); done | (repeat (first | exact List.Mem.head _ | apply List.Mem.tail)))) (fun hg => hy13 (gnot hg.2)) ?_
          refine D_load0 (GC.some rfl rfl) (OpV.s rfl) (fun hg => RdT.at (RdT.tree (by first | (with_reducible repeat (first | exact List.Mem.head _ | apply List.Mem.tail)); done | (repeat (first | exact List.Mem.head _ | apply List.Mem.tail)))) (hy13 (gnot hg.2)).2) one9 rfl ?_
          refine D_lenT (GC.some rfl rfl) (OpV.s rfl) str9 ?_
          refine D_bin (GC.some rfl rfl) (OpV.s rfl) OpV.c (fun hg => bv_eql) ?_
          refine D_or (cy := _) GC.none (OpV.t rfl) (OpV.s rfl) (fun h hb => ⟨h, hb⟩) ?_
          refine DV_nil ?_
          refine Give_is rfl rfl ?_
          refine Give_drop rfl ?_
          refine Give_drop rfl ?_
          refine Give_drop rfl ?_
          refine Give_drop rfl ?_
          refine Give_drop rfl ?_
          refine Give_drop rfl ?_
          refine Give_drop rfl ?_
          refine Give_drop rfl ?_
          refine Give_drop rfl ?_
          refine Give_drop rfl ?_
          refine Give_drop rfl ?_
          refine Give_drop rfl ?_
          refine Give_drop rfl ?_
          refine Give_drop rfl ?_
          refine Give_drop rfl ?_
          refine Give_drop rfl ?_
          refine Give_drop rfl ?_
          refine Give_drop rfl ?_
          refine Give_drop rfl ?_
          refine Give_drop rfl ?_
          refine Give_drop rfl ?_
          refine Give_drop rfl ?_
          refine Give_drop rfl ?_
          refine Give_drop rfl ?_
          refine Give_drop rfl ?_
          refine Give_drop rfl ?_
          refine Give_drop rfl ?_
          refine Give_drop rfl ?_
          refine Give_nil ?_
          refine W_weaken (l' := [(0, _), (3, _), (4, _), (5, _), (59, _)]) (Sub.cons rfl (Sub.cons rfl (Sub.cons rfl (Sub.cons rfl (Sub.cons rfl (Sub.nil _)))))) (MSub.refl _) ?_
          refine W_cond rfl (fun hc14 => ?_) (fun hc14 => ?_)
          · skip
            replace hp := cond_t hc14 hp
            refine W_seq ?_
            refine W_region ?_
            refine L_assign rfl rfl ?_
            refine L_nil ?_
            have ho := hp; clear hp; obtain ⟨a15, hp, hx_a15⟩ := map_any ho; clear ho
            obtain rfl := hx9 _ hx_a15
            obtain rfl := Option.some.inj hp
            refine W_ret ?_
            refine res1 rfl (ResOK.tmp rfl) ⟨rfl, rfl⟩ (MSub.nil _)
          · skip
            replace hp := cond_f hc14 hp
            refine W_skip ?_
            refine W_region ?_
            refine L_move rfl rfl ?_
            refine L_binV rfl rfl rfl bv_add ?_
            refine L_assign rfl rfl ?_
            refine L_nil ?_
            exact ⟨IntKind.wrap .i64 (v9_0 + 1), (Sub.cons rfl (Sub.cons rfl (Sub.cons rfl (Sub.cons rfl (Sub.nil _))))), (Arr.sub (MSub.cons (by first | (with_reducible repeat (first | exact Pick.here _ | apply Pick.there)); done | (repeat (first | exact Pick.here _ | apply Pick.there))) (MSub.nil _))), some_eq hp⟩
        · skip
          replace hp := cond_f hc10 hp
          refine W_exit ?_
          have ho := hp; clear hp; obtain ⟨a16, hp, hx_a16⟩ := map_any ho; clear ho
          obtain rfl := hx9 _ hx_a16
          refine W_seq ?_
          refine W_region ?_
          refine L_move rfl rfl ?_
          refine L_move rfl rfl ?_
          have ho := hp; clear hp; obtain ⟨y17, hy17, hp⟩ := bind_any ho; clear ho
          refine L_callX rfl fn50 rfl (by exact fun w hw => w_at_walk w a0 0 (RdT.now (RdT.old h0) hw) _ hy17) ?_
          refine L_convInt rfl rfl und5 (by rw [und3]; rfl) ?_
          refine L_move rfl rfl ?_
          have ho := hp; clear hp; obtain ⟨y18, hy18, hp⟩ := bind_any ho; clear ho
          refine L_callX rfl fn50 rfl (by exact fun w hw => w_at_walk w a0 1 (RdT.now (RdT.old h0) hw) _ hy18) ?_
          refine L_convInt rfl rfl und5 (by rw [und3]; rfl) ?_
          have ho := hp; clear hp; obtain ⟨y19, hy19, hp⟩ := bind_any ho; clear ho
          have ey19 := u8P_some hy19
          try simp only [ey19]
          have ho := hp; clear hp; obtain ⟨y20, hy20, hp⟩ := bind_any ho; clear ho
          have ey20 := u8P_some hy20
          try simp only [ey20]
          have ho := hp; clear hp; obtain ⟨y21, hy21, hp⟩ := bind_any ho; clear ho
          refine L_bsN ([y19, y20] : List UInt8) (xs := [(0, .tmp 63), (1, .tmp 66)]) rfl rfl el59 rfl rfl rfl rfl rfl rfl rfl hy21 (fun X22 hdX22 => ?_)
          subst hdX22
          refine L_toStr (X := X22) rfl rfl und59 und5 und9 (RdT.tree (by first | (with_reducible repeat (first | exact List.Mem.head _ | apply List.Mem.tail)); done | (repeat (first | exact List.Mem.head _ | apply List.Mem.tail)))) ?_
          have ho := hp; clear hp; obtain ⟨y23, hy23, hp⟩ := bind_any ho; clear ho
          refine L_binV rfl rfl rfl (bv_saddP hy23) ?_
          refine L_assign rfl rfl ?_
          refine L_nil ?_
          refine W_seq ?_
          refine W_region ?_
          refine L_move rfl rfl ?_
          have ho := hp; clear hp; obtain ⟨y24, hy24, hp⟩ := bind_any ho; clear ho
          refine L_callR rfl fn47 rfl (by exact fun w hw => i_CutData_walk w y23  _ hy24) ?_
          rintro vy24 My24 ⟨y24x0, hvy24, hdy24, rfl⟩
          subst hvy24
          subst hdy24
          simp only [cells_pair, cells_int, cells_bool, cells_str, cells_TL, List.cons_append, List.nil_append]
          try dsimp only [dat_pair, dat_int, dat_bool, dat_str, dat_ar] at hp
          refine L_assign rfl rfl ?_
          refine L_nil ?_
          refine W_seq ?_
          refine W_seq ?_
          refine W_region ?_
          refine L_assign rfl rfl ?_
          refine L_nil ?_
          refine W_block ?_
          refine W_while (σ := Int) GT.dat (fun (v25_0 : Int) => [(8, .int .i64 v25_0)]) (fun (v25_0 : Int) => []) [(0, _), (3, _), (4, _), (6, _), (7, _)] [treeH y4x0, treeH y24x0] 0 hp (Sub.cons rfl (Sub.cons rfl (Sub.cons rfl (Sub.cons rfl (Sub.cons rfl (Sub.cons rfl (Sub.nil _))))))) (MSub.cons (by first | (with_reducible repeat (first | exact Pick.here _ | apply Pick.there)); done | (repeat (first | exact Pick.here _ | apply Pick.there))) (MSub.cons (by first | (with_reducible repeat (first | exact Pick.here _ | apply Pick.there)); done | (repeat (first | exact Pick.here _ | apply Pick.there))) (MSub.nil _))) ?_
          clear hp
          rintro v25_0 x25 hp hx25
          try dsimp only [dat_pair, dat_int, dat_bool, dat_str, dat_ar] at hp
          refine W_weaken (l' := [(0, _), (3, _), (4, _), (6, _), (7, _), (8, _)]) (Sub.cons rfl (Sub.cons rfl (Sub.cons rfl (Sub.cons rfl (Sub.cons rfl (Sub.cons rfl (Sub.nil _))))))) (M' := [_, _]) (MSub.cons (by first | (with_reducible repeat (first | exact Pick.here _ | apply Pick.there)); done | (repeat (first | exact Pick.here _ | apply Pick.there))) (MSub.cons (by first | (with_reducible repeat (first | exact Pick.here _ | apply Pick.there)); done | (repeat (first | exact Pick.here _ | apply Pick.there))) (MSub.nil _))) ?_
          refine W_seq ?_
          refine W_seq ?_
          refine W_region ?_
          refine L_move rfl rfl ?_
          refine L_move rfl rfl ?_
          refine L_lenP (X := y4x0) rfl rfl el73 ?_
          refine L_binV rfl rfl rfl bv_sub ?_
          refine L_binV rfl rfl rfl bv_lss ?_
          refine L_nil ?_
          refine W_weaken (l' := [(0, _), (3, _), (4, _), (6, _), (7, _), (8, _), (76, _)]) (Sub.cons rfl (Sub.cons rfl (Sub.cons rfl (Sub.cons rfl (Sub.cons rfl (Sub.cons rfl (Sub.cons rfl (Sub.nil _)))))))) (MSub.refl _) ?_
          refine W_cond rfl (fun hc26 => ?_) (fun hc26 => ?_)
          · skip
            replace hp := cond_t hc26 hp
            refine W_skip ?_
            refine W_seq ?_
            refine W_block ?_
            refine W_seq ?_
            have ho := hp; clear hp; obtain ⟨u27, hy27, hp⟩ := idx_bind ho; clear ho
            have ho := hp; clear hp; obtain ⟨u28, hy28, hp⟩ := idx_bind ho; clear ho
            refine W_D0 [87] mix (by kernel_rfl) rfl ?_
            refine D_move GC.none (OpV.t rfl) ?_
            refine D_move GC.none (OpV.t rfl) ?_
            refine D_idxA (X := y24x0) GC.none (OpV.t rfl) (OpV.t rfl) el73 (RdT.tree (by first | (with_reducible repeat (first | exact List.Mem.head _ | apply List.Mem.tail)); done | (repeat (first | exact List.Mem.head _ | apply List.Mem.tail)))) (fun _ => hy27) ?_
            refine D_load0 GC.none (OpV.t rfl) (fun hg => RdT.at (RdT.tree (by first | (with_reducible repeat (first | exact List.Mem.head _ | apply List.Mem.tail)); done | (repeat (first | exact List.Mem.head _ | apply List.Mem.tail)))) (hy27).2) one9 rfl ?_
            refine D_move GC.none (OpV.t rfl) ?_
            refine D_move GC.none (OpV.t rfl) ?_
            refine D_idxA (X := y4x0) GC.none (OpV.t rfl) (OpV.t rfl) el73 (RdT.tree (by first | (with_reducible repeat (first | exact List.Mem.head _ | apply List.Mem.tail)); done | (repeat (first | exact List.Mem.head _ | apply List.Mem.tail)))) (fun _ => hy28) ?_
            refine D_load0 GC.none (OpV.t rfl) (fun hg => RdT.at (RdT.tree (by first | (with_reducible repeat (first | exact List.Mem.head _ | apply List.Mem.tail)); done | (repeat (first | exact List.Mem.head _ | apply List.Mem.tail)))) (hy28).2) one9 rfl ?_
            refine D_bin GC.none (OpV.t rfl) (OpV.t rfl) (fun hg => bv_sneq) ?_
            refine DV_nil ?_
            refine Give_is rfl rfl ?_
            refine Give_drop rfl ?_
            refine Give_drop rfl ?_
            refine Give_drop rfl ?_
            refine Give_drop rfl ?_
            refine Give_drop rfl ?_
            refine Give_drop rfl ?_
            refine Give_drop rfl ?_
            refine Give_drop rfl ?_
            refine Give_nil ?_
            refine W_weaken (l' := [(0, _), (3, _), (4, _), (6, _), (7, _), (8, _), (87, _)]) (Sub.cons rfl (Sub.cons rfl (Sub.cons rfl (Sub.cons rfl (Sub.cons rfl (Sub.cons rfl (Sub.cons rfl (Sub.nil _)))))))) (MSub.refl _) ?_
            refine W_cond rfl (fun hc29 => ?_) (fun hc29 => ?_)
            · skip
              replace hp := cond_t hc29 hp
              refine W_seq ?_
              refine W_region ?_
              refine L_assign rfl rfl ?_
              refine L_nil ?_
              have ho := hp; clear hp; obtain ⟨a30, hp, hx_a30⟩ := map_any ho; clear ho
              obtain rfl := hx25 _ hx_a30
              obtain rfl := Option.some.inj hp
              refine W_ret ?_
              refine res1 rfl (ResOK.tmp rfl) ⟨rfl, rfl⟩ (MSub.nil _)
            · skip
              replace hp := cond_f hc29 hp
              refine W_skip ?_
              refine W_region ?_
              refine L_move rfl rfl ?_
              refine L_binV rfl rfl rfl bv_add ?_
              refine L_assign rfl rfl ?_
              refine L_nil ?_
              exact ⟨IntKind.wrap .i64 (v25_0 + 1), (Sub.cons rfl (Sub.cons rfl (Sub.cons rfl (Sub.cons rfl (Sub.cons rfl (Sub.cons rfl (Sub.nil _))))))), (Arr.sub (MSub.cons (by first | (with_reducible repeat (first | exact Pick.here _ | apply Pick.there)); done | (repeat (first | exact Pick.here _ | apply Pick.there))) (MSub.cons (by first | (with_reducible repeat (first | exact Pick.here _ | apply Pick.there)); done | (repeat (first | exact Pick.here _ | apply Pick.there))) (MSub.nil _)))), some_eq hp⟩
          · skip
            replace hp := cond_f hc26 hp
            refine W_exit ?_
            have ho := hp; clear hp; obtain ⟨a31, hp, hx_a31⟩ := map_any ho; clear ho
            obtain rfl := hx25 _ hx_a31
            refine W_seq ?_
            refine W_region ?_
            refine L_move rfl rfl ?_
            have ho := hp; clear hp; obtain ⟨y32, hy32, hp⟩ := bind_any ho; clear ho
            refine L_callR rfl fn51 rfl (by exact fun w hw => s_DrawShared_walk w a0 (RdT.now (RdT.old h0) hw) _ hy32) ?_
            rintro vy32 My32 ⟨y32x0, y32x1, hvy32, hdy32, rfl⟩
            subst hvy32
            subst hdy32
            simp only [cells_pair, cells_int, cells_bool, cells_str, cells_TL, List.cons_append, List.nil_append]
            try dsimp only [dat_pair, dat_int, dat_bool, dat_str, dat_ar] at hp
            refine L_move rfl rfl ?_
            refine L_extract rfl rfl rfl ?_
            refine L_extract rfl rfl rfl ?_
            refine L_assign rfl rfl ?_
            refine L_assign rfl rfl ?_
            refine L_nil ?_
            refine W_seq ?_
            have ho := hp; clear hp; obtain ⟨y33, hy33, hp⟩ := bind_any ho; clear ho
            have ho := hp; clear hp; obtain ⟨y34, hy34, hp⟩ := gb_any ho; clear ho
            have ho := hp; clear hp; obtain ⟨y35, hy35, hp⟩ := gb_any ho; clear ho
            have ho := hp; clear hp; obtain ⟨y36, hy36, hp⟩ := gb_any ho; clear ho
            have ho := hp; clear hp; obtain ⟨y37, hy37, hp⟩ := gb_any ho; clear ho
            have ho := hp; clear hp; obtain ⟨y38, hy38, hp⟩ := gb_any ho; clear ho
            have ho := hp; clear hp; obtain ⟨y39, hy39, hp⟩ := gb_any ho; clear ho
            have ho := hp; clear hp; obtain ⟨y40, hy40, hp⟩ := gb_any ho; clear ho
            refine W_D0 [2] mix (by kernel_rfl) rfl ?_
            refine D_move GC.none (OpV.t rfl) ?_
            refine D_callX GC.none fn52 (OpVs.cons (OpV.t rfl) (OpVs.nil)) (by exact fun hg w F hF hM => i_Joined_walk w y4x0 (RdT.nowS (RdT.tree (by first | (with_reducible repeat (first | exact List.Mem.head _ | apply List.Mem.tail)); done | (repeat (first | exact List.Mem.head _ | apply List.Mem.tail)))) hF hM) _ hy33) ?_
            refine D_move GC.none (OpV.t rfl) ?_
            refine D_bin GC.none (OpV.t rfl) (OpV.t rfl) (fun hg => bv_seql) ?_
            refine D_move GC.none (OpV.t rfl) ?_
            refine D_move (GC.some rfl rfl) (OpV.t rfl) ?_
            refine D_callX (GC.some rfl rfl) fn52 (OpVs.cons (OpV.s rfl) (OpVs.nil)) (by exact fun hg w F hF hM => i_Joined_walk w y24x0 (RdT.nowS (RdT.tree (by first | (with_reducible repeat (first | exact List.Mem.head _ | apply List.Mem.tail)); done | (repeat (first | exact List.Mem.head _ | apply List.Mem.tail)))) hF hM) _ (hy34 hg.2)) ?_
            refine D_move (GC.some rfl rfl) (OpV.t rfl) ?_
            refine D_bin (GC.some rfl rfl) (OpV.s rfl) (OpV.s rfl) (fun hg => bv_seql) ?_
            refine D_and (cy := _) GC.none (OpV.t rfl) (OpV.s rfl) (fun h hb => ⟨h, hb⟩) ?_
            refine D_move GC.none (OpV.t rfl) ?_
            refine D_move (GC.some rfl rfl) (OpV.t rfl) ?_
            refine D_callGV (fun v M => ∃ (x0 : TL ByteArray), v = (TL.hdr x0) ∧ GT.dat x0 = y35 ∧ M = [treeH x0]) (GC.some rfl rfl) fn53 (OpVs.cons (OpV.s rfl) (OpVs.nil)) (by exact fun hg w F hF hM => i_CutIds_walk w y3  (RdT.nowS (RdT.old hg0) hF hM) _ (hy35 hg.2)) ?_
            refine D_move (GC.some rfl rfl) (OpV.t rfl) ?_
            refine D_callGV (fun v M => ∃ (x0 : TL ByteArray), v = (TL.hdr x0) ∧ GT.dat x0 = y36 ∧ M = [treeH x0]) (GC.some rfl rfl) fn54 (OpVs.cons (OpV.s rfl) (OpVs.nil)) (by exact fun hg w F hF hM => s_CutIds_walk w y3  _ (hy36 hg.2)) ?_
            refine D_callGR [_, _] (GC.some rfl rfl) fn48 ⟨⟨_, rfl, fun _ _ h => h⟩, ⟨⟨_, rfl, fun _ _ h => h⟩, trivial⟩⟩ (by rintro hg w F vs hF hM ⟨v0, u0, M0, rfl, g0, hin0, ⟨v1, u1, M1, rfl, g1, hin1, rfl⟩⟩; obtain ⟨m0, rfl, hd0, rfl⟩ := g0.1 hg; subst hd0; obtain ⟨m1, rfl, hd1, rfl⟩ := g1.1 hg; subst hd1; exact w_sameTexts_walk w m0 m1 (rd_of_tree (hin0 _ (List.mem_singleton.2 rfl)) hF.sees) (rd_of_tree (hin1 _ (List.mem_singleton.2 rfl)) hF.sees) _ (hy37 hg.2)) ?_
            refine D_and (cy := _) GC.none (OpV.t rfl) (OpV.s rfl) (fun h hb => ⟨h, hb⟩) ?_
            refine D_move GC.none (OpV.t rfl) ?_
            refine D_move (GC.some rfl rfl) (OpV.t rfl) ?_
            refine D_move (GC.some rfl rfl) (OpV.t rfl) ?_
            refine D_callX (GC.some rfl rfl) fn55 (OpVs.cons (OpV.s rfl) (OpVs.cons (OpV.s rfl) (OpVs.nil))) (by exact fun hg w F hF hM => i_Shared_walk w y32x0 y32x1  (RdT.nowS (RdT.old hg0) hF hM) _ (hy38 hg.2)) ?_
            refine D_move (GC.some rfl rfl) (OpV.t rfl) ?_
            refine D_move (GC.some rfl rfl) (OpV.t rfl) ?_
            refine D_callX (GC.some rfl rfl) fn56 (OpVs.cons (OpV.s rfl) (OpVs.cons (OpV.s rfl) (OpVs.nil))) (by exact fun hg w F hF hM => s_Shared_walk w y32x0 y32x1  _ (hy39 hg.2)) ?_
            refine D_bin (GC.some rfl rfl) (OpV.s rfl) (OpV.s rfl) (fun hg => bv_eql) ?_
            refine D_and (cy := _) GC.none (OpV.t rfl) (OpV.s rfl) (fun h hb => ⟨h, hb⟩) ?_
            refine D_move GC.none (OpV.t rfl) ?_
            refine D_move (GC.some rfl rfl) (OpV.t rfl) ?_
            refine D_move (GC.some rfl rfl) (OpV.t rfl) ?_
            refine D_callX (GC.some rfl rfl) fn55 (OpVs.cons (OpV.s rfl) (OpVs.cons (OpV.s rfl) (OpVs.nil))) (by exact fun hg w F hF hM => i_Shared_walk w y3 y3  (RdT.nowS (RdT.old hg0) hF hM) _ (hy40 hg.2)) ?_
            refine D_move (GC.some rfl rfl) (OpV.t rfl) ?_
            refine D_lenP (X := y4x0) (GC.some rfl rfl) (OpV.s rfl) el73 ?_
            refine D_bin (GC.some rfl rfl) (OpV.s rfl) (OpV.s rfl) (fun hg => bv_eql) ?_
            refine D_and (cy := _) GC.none (OpV.t rfl) (OpV.s rfl) (fun h hb => ⟨h, hb⟩) ?_
            refine D_assign GC.none (OpV.t rfl) ?_
            refine DV_nil ?_
            refine Give_is rfl rfl ?_
            refine Give_drop rfl ?_
            refine Give_drop rfl ?_
            refine Give_drop rfl ?_
            refine Give_drop rfl ?_
            refine Give_drop rfl ?_
            refine Give_drop rfl ?_
            refine Give_drop rfl ?_
            refine Give_drop rfl ?_
            refine Give_drop rfl ?_
            refine Give_drop rfl ?_
            refine Give_drop rfl ?_
            refine Give_drop rfl ?_
            refine Give_drop rfl ?_
            refine Give_drop rfl ?_
            refine Give_drop rfl ?_
            refine Give_drop rfl ?_
            refine Give_drop rfl ?_
            refine Give_drop rfl ?_
            refine Give_drop rfl ?_
            refine Give_drop rfl ?_
            refine Give_drop rfl ?_
            refine Give_drop rfl ?_
            refine Give_drop rfl ?_
            refine Give_drop rfl ?_
            refine Give_drop rfl ?_
            refine Give_drop rfl ?_
            refine Give_drop rfl ?_
            refine Give_drop rfl ?_
            refine Give_drop rfl ?_
            refine Give_drop rfl ?_
            refine Give_drop rfl ?_
            refine Give_drop rfl ?_
            refine Give_drop rfl ?_
            refine Give_drop rfl ?_
            refine Give_nil ?_
            obtain rfl := Option.some.inj hp
            refine W_ret ?_
            refine res1 rfl (ResOK.tmp rfl) ⟨rfl, rfl⟩ (MSub.nil _)

end Go.Proofs.SL
