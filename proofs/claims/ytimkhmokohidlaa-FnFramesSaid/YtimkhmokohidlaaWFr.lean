/- Walks of functions, each with the function on data that it follows. -/
import Derived.Test.YtimkhmokohidlaaWDr
namespace Go.Proofs.SL
open Go
abbrev T_scan := ByteArray × Bool
abbrev D_scan := ByteArray × Bool
theorem fn77 : IsFn Try.prog 77 := ⟨_, Try.func77, by kernel_rfl, rfl⟩
theorem str9 : isStr Try.prog 9 = true := by kernel_rfl
theorem fn124 : IsFn Try.prog 124 := ⟨_, Try.func124, by kernel_rfl, rfl⟩
theorem fn67 : IsFn Try.prog 67 := ⟨_, Try.func67, by kernel_rfl, rfl⟩
theorem fn69 : IsFn Try.prog 69 := ⟨_, Try.func69, by kernel_rfl, rfl⟩
theorem fn68 : IsFn Try.prog 68 := ⟨_, Try.func68, by kernel_rfl, rfl⟩
theorem fn60 : IsFn Try.prog 60 := ⟨_, Try.func60, by kernel_rfl, rfl⟩
theorem fn58 : IsFn Try.prog 58 := ⟨_, Try.func58, by kernel_rfl, rfl⟩
theorem fn16 : IsFn Try.prog 16 := ⟨_, Try.func16, by kernel_rfl, rfl⟩
theorem fn61 : IsFn Try.prog 61 := ⟨_, Try.func61, by kernel_rfl, rfl⟩
theorem fn73 : IsFn Try.prog 73 := ⟨_, Try.func73, by kernel_rfl, rfl⟩
theorem fn123 : IsFn Try.prog 123 := ⟨_, Try.func123, by kernel_rfl, rfl⟩
theorem fld148_0 : fldOf Try.prog 148 0 = some 0 := by kernel_rfl
theorem fn174 : IsFn Try.prog 174 := ⟨_, Try.func174, by kernel_rfl, rfl⟩
theorem fld148_1 : fldOf Try.prog 148 1 = some 1 := by kernel_rfl
theorem one4 : oneOf Try.prog 4 = true := by kernel_rfl
theorem fn158 : IsFn Try.prog 158 := ⟨_, Try.func158, by kernel_rfl, rfl⟩
theorem fn159 : IsFn Try.prog 159 := ⟨_, Try.func159, by kernel_rfl, rfl⟩
theorem fn66 : IsFn Try.prog 66 := ⟨_, Try.func66, by kernel_rfl, rfl⟩
theorem fn65 : IsFn Try.prog 65 := ⟨_, Try.func65, by kernel_rfl, rfl⟩
theorem fn64 : IsFn Try.prog 64 := ⟨_, Try.func64, by kernel_rfl, rfl⟩
theorem bld148 : bldOf Try.prog 148 = some ([(0, 1), (1, 1)], [.string ByteArray.empty, .bool false]) := by kernel_rfl
theorem fn121 : IsFn Try.prog 121 := ⟨_, Try.func121, by kernel_rfl, rfl⟩
theorem fn14 : IsFn Try.prog 14 := ⟨_, Try.func14, by kernel_rfl, rfl⟩
theorem fn62 : IsFn Try.prog 62 := ⟨_, Try.func62, by kernel_rfl, rfl⟩
theorem fn160 : IsFn Try.prog 160 := ⟨_, Try.func160, by kernel_rfl, rfl⟩
theorem fn122 : IsFn Try.prog 122 := ⟨_, Try.func122, by kernel_rfl, rfl⟩
theorem fn63 : IsFn Try.prog 63 := ⟨_, Try.func63, by kernel_rfl, rfl⟩
theorem fn9 : IsFn Try.prog 9 := ⟨_, Try.func9, by kernel_rfl, rfl⟩
theorem fn10 : IsFn Try.prog 10 := ⟨_, Try.func10, by kernel_rfl, rfl⟩
theorem fn11 : IsFn Try.prog 11 := ⟨_, Try.func11, by kernel_rfl, rfl⟩
theorem fn12 : IsFn Try.prog 12 := ⟨_, Try.func12, by kernel_rfl, rfl⟩
theorem fn13 : IsFn Try.prog 13 := ⟨_, Try.func13, by kernel_rfl, rfl⟩
theorem fn15 : IsFn Try.prog 15 := ⟨_, Try.func15, by kernel_rfl, rfl⟩
noncomputable def s_Var (a0 : Int) : Option ByteArray :=
  Option.bind (s_l1In a0 0 562949953421311) (fun y1 => cond (!y1) (some ByteArray.empty) (Option.bind (some ([] : List UInt8)) (fun y4 => whileP (fun s5 : Int × (List UInt8) => cond (decide (128 ≤ s5.1)) (Option.bind (u8P (IntKind.wrap .u8 (IntKind.wrap .i64 (128 + (s5.1).tmod 128)))) (fun y7 => Option.bind (appP s5.2 [y7]) (fun y9 => some (.inl ((IntKind.wrap .i64 ((s5.1).tdiv 128), y9)))))) (Option.map .inr (Option.bind (u8P (IntKind.wrap .u8 s5.1)) (fun y11 => Option.bind (appP s5.2 [y11]) (fun y13 => some (strP y13)))))) (a0, y4))))

theorem s_Var_walk (w : World) (a0 : Int)  (r : ByteArray) (hp : s_Var a0 = some r) : Spec Try.prog 124 [.int .i64 a0].toArray w [] (IsV (.string r)) := by
  refine Spec.intro Try.func124 rfl Try.ntmps124 rfl ?_
  unfold s_Var at hp
  try dsimp only [dat_pair, dat_int, dat_bool, dat_str, dat_ar] at hp
  refine W_seq ?_
  refine W_region ?_
  refine L_assign rfl rfl ?_
  refine L_nil ?_
  refine W_seq ?_
  refine W_seq ?_
  refine W_region ?_
  refine L_move rfl rfl ?_
  have ho := hp; clear hp; obtain ⟨y1, hy1, hp⟩ := bind_any ho; clear ho
  refine L_callX rfl fn77 rfl (by exact fun w hw => s_l1In_walk w a0 0 562949953421311  _ hy1) ?_
  refine L_not rfl rfl ?_
  refine L_nil ?_
  refine W_weaken (l' := [(0, _), (6, _)]) (Sub.cons rfl (Sub.cons rfl (Sub.nil _))) (MSub.refl _) ?_
  refine W_cond rfl (fun hc2 => ?_) (fun hc2 => ?_)
  · skip
    replace hp := cond_t hc2 hp
    refine W_seq ?_
    refine W_region ?_
    refine L_assign rfl rfl ?_
    refine L_nil ?_
    obtain rfl := Option.some.inj hp
    refine W_ret ?_
    refine res1 rfl (ResOK.tmp rfl) ⟨rfl, rfl⟩ (MSub.nil _)
  · skip
    replace hp := cond_f hc2 hp
    refine W_skip ?_
    refine W_seq ?_
    refine W_region ?_
    have ho := hp; clear hp; obtain ⟨y4, hy4, hp⟩ := bind_any ho; clear ho
    refine L_mk0 UInt8 rfl el22 (fun X3 hdX3 => ?_)
    obtain rfl : GT.dat X3 = y4 := hdX3.trans (Option.some.inj hy4)
    clear hy4 hdX3
    refine L_assign rfl rfl ?_
    refine L_nil ?_
    refine W_seq ?_
    refine W_block ?_
    refine W_while (σ := Int × (TL UInt8)) GT.dat (fun ((v5_0, v5_1) : Int × (TL UInt8)) => [(0, .int .i64 v5_0), (3, (TL.hdr v5_1))]) (fun ((v5_0, v5_1) : Int × (TL UInt8)) => [treeH v5_1]) [] [] (a0, X3) hp (Sub.cons rfl (Sub.cons rfl (Sub.nil _))) (MSub.cons (by first | (with_reducible repeat (first | exact Pick.here _ | apply Pick.there)); done | (repeat (first | exact Pick.here _ | apply Pick.there))) (MSub.nil _)) ?_
    clear hp
    rintro ⟨v5_0, v5_1⟩ x5 hp hx5
    try dsimp only [dat_pair, dat_int, dat_bool, dat_str, dat_ar] at hp
    refine W_weaken (l' := [(0, _), (3, _)]) (Sub.cons rfl (Sub.cons rfl (Sub.nil _))) (M' := [_]) (MSub.cons (by first | (with_reducible repeat (first | exact Pick.here _ | apply Pick.there)); done | (repeat (first | exact Pick.here _ | apply Pick.there))) (MSub.nil _)) ?_
    refine W_seq ?_
    refine W_seq ?_
    refine W_region ?_
    refine L_move rfl rfl ?_
    refine L_binV rfl rfl rfl bv_geq ?_
    refine L_nil ?_
    refine W_weaken (l' := [(0, _), (3, _), (9, _)]) (Sub.cons rfl (Sub.cons rfl (Sub.cons rfl (Sub.nil _)))) (MSub.refl _) ?_
    refine W_cond rfl (fun hc6 => ?_) (fun hc6 => ?_)
    · skip
      replace hp := cond_t hc6 hp
      refine W_skip ?_
      refine W_block ?_
      refine W_seq ?_
      refine W_region ?_
      refine L_move rfl rfl ?_
      refine L_move rfl rfl ?_
      refine L_binV rfl rfl rfl (bv_rem (by decide)) ?_
      refine L_binV rfl rfl rfl bv_add ?_
      refine L_convInt rfl rfl und5 (by rw [und3]; rfl) ?_
      have ho := hp; clear hp; obtain ⟨y7, hy7, hp⟩ := bind_any ho; clear ho
      have ey7 := u8P_some hy7
      try simp only [ey7]
      refine L_buildSlice1 rfl rfl el22 rfl (by decide) (by decide) rfl (fun bb15 => ?_)
      have ho := hp; clear hp; obtain ⟨y9, hy9, hp⟩ := bind_any ho; clear ho
      refine L_app1F (X := v5_1) (y7 : UInt8) rfl rfl rfl el22 rfl rfl (by first | (with_reducible repeat (first | exact Pick.here _ | apply Pick.there)); done | (repeat (first | exact Pick.here _ | apply Pick.there))) (by first | (with_reducible repeat (first | exact List.Mem.head _ | apply List.Mem.tail)); done | (repeat (first | exact List.Mem.head _ | apply List.Mem.tail)))  hy9 (by decide) (fun X8 hdX8 => ?_)
      subst hdX8
      refine L_assign rfl rfl ?_
      refine L_nil ?_
      refine W_region ?_
      refine L_move rfl rfl ?_
      refine L_binV rfl rfl rfl (bv_quo (by decide)) ?_
      refine L_assign rfl rfl ?_
      refine L_nil ?_
      exact ⟨(IntKind.wrap .i64 ((v5_0).tdiv 128), X8), (Sub.cons rfl (Sub.cons rfl (Sub.nil _))), (Arr.sub (MSub.cons (by first | (with_reducible repeat (first | exact Pick.here _ | apply Pick.there)); done | (repeat (first | exact Pick.here _ | apply Pick.there))) (MSub.nil _))), some_eq hp⟩
    · skip
      replace hp := cond_f hc6 hp
      refine W_exit ?_
      have ho := hp; clear hp; obtain ⟨a10, hp, hx_a10⟩ := map_any ho; clear ho
      obtain rfl := hx5 _ hx_a10
      refine W_seq ?_
      refine W_region ?_
      refine L_move rfl rfl ?_
      refine L_move rfl rfl ?_
      refine L_convInt rfl rfl und5 (by rw [und3]; rfl) ?_
      have ho := hp; clear hp; obtain ⟨y11, hy11, hp⟩ := bind_any ho; clear ho
      have ey11 := u8P_some hy11
      try simp only [ey11]
      refine L_buildSlice1 rfl rfl el22 rfl (by decide) (by decide) rfl (fun bb22 => ?_)
      have ho := hp; clear hp; obtain ⟨y13, hy13, hp⟩ := bind_any ho; clear ho
      refine L_app1F (X := v5_1) (y11 : UInt8) rfl rfl rfl el22 rfl rfl (by first | (with_reducible repeat (first | exact Pick.here _ | apply Pick.there)); done | (repeat (first | exact Pick.here _ | apply Pick.there))) (by first | (with_reducible repeat (first | exact List.Mem.head _ | apply List.Mem.tail)); done | (repeat (first | exact List.Mem.head _ | apply List.Mem.tail)))  hy13 (by decide) (fun X12 hdX12 => ?_)
      subst hdX12
      refine L_toStr (X := X12) rfl rfl und22 und5 und9 (RdT.tree (by first | (with_reducible repeat (first | exact List.Mem.head _ | apply List.Mem.tail)); done | (repeat (first | exact List.Mem.head _ | apply List.Mem.tail)))) ?_
      refine L_assign rfl rfl ?_
      refine L_nil ?_
      obtain rfl := Option.some.inj hp
      refine W_ret ?_
      refine res1 rfl (ResOK.tmp rfl) ⟨rfl, rfl⟩ (MSub.nil _)

noncomputable def s_l4Piece (a0 : ByteArray) : Option ByteArray :=
  Option.bind (s_Var (a0.size : Int)) (fun y1 => Option.bind (catP y1 a0) (fun y2 => some y2))

theorem s_l4Piece_walk (w : World) (a0 : ByteArray)  (r : ByteArray) (hp : s_l4Piece a0 = some r) : Spec Try.prog 67 [.string a0].toArray w [] (IsV (.string r)) := by
  refine Spec.intro Try.func67 rfl Try.ntmps67 rfl ?_
  unfold s_l4Piece at hp
  try dsimp only [dat_pair, dat_int, dat_bool, dat_str, dat_ar] at hp
  refine W_seq ?_
  refine W_region ?_
  refine L_assign rfl rfl ?_
  refine L_nil ?_
  refine W_seq ?_
  refine W_region ?_
  refine L_move rfl rfl ?_
  refine L_lenT rfl rfl str9 ?_
  have ho := hp; clear hp; obtain ⟨y1, hy1, hp⟩ := bind_any ho; clear ho
  refine L_callX rfl fn124 rfl (by exact fun w hw => s_Var_walk w (a0.size : Int)  _ hy1) ?_
  refine L_move rfl rfl ?_
  have ho := hp; clear hp; obtain ⟨y2, hy2, hp⟩ := bind_any ho; clear ho
  refine L_binV rfl rfl rfl (bv_saddP hy2) ?_
  refine L_assign rfl rfl ?_
  refine L_nil ?_
  obtain rfl := Option.some.inj hp
  refine W_ret ?_
  refine res1 rfl (ResOK.tmp rfl) ⟨rfl, rfl⟩ (MSub.nil _)

noncomputable def s_Crc (a0 : ByteArray) : Option Int :=
  whileP (fun s1 : Int × Int => cond (decide (s1.2 < (a0.size : Int))) (Option.bind (sidx a0 s1.2) (fun y3 => whileP (fun s4 : Int × Int => cond (decide (s4.2 < 8)) (cond (decide ((s4.1).tmod 2 = 1)) (some (.inl ((bits .xor .i64 (IntKind.wrap .i64 ((s4.1).tdiv 2)) 2197175160, IntKind.wrap .i64 (s4.2 + 1))))) (some (.inl ((IntKind.wrap .i64 ((s4.1).tdiv 2), IntKind.wrap .i64 (s4.2 + 1)))))) (Option.map .inr (some (.inl ((s4.1, IntKind.wrap .i64 (s1.2 + 1))))))) (bits .xor .i64 s1.1 (IntKind.wrap .i64 y3), 0))) (Option.map .inr (some (IntKind.wrap .i64 (4294967295 - s1.1))))) (4294967295, 0)

theorem s_Crc_walk (w : World) (a0 : ByteArray)  (r : Int) (hp : s_Crc a0 = some r) : Spec Try.prog 69 [.string a0].toArray w [] (IsV (.int .i64 r)) := by
  refine Spec.intro Try.func69 rfl Try.ntmps69 rfl ?_
  unfold s_Crc at hp
  try dsimp only [dat_pair, dat_int, dat_bool, dat_str, dat_ar] at hp
  refine W_seq ?_
  refine W_region ?_
  refine L_assign rfl rfl ?_
  refine L_nil ?_
  refine W_seq ?_
  refine W_region ?_
  refine L_assign rfl rfl ?_
  refine L_nil ?_
  refine W_seq ?_
  refine W_seq ?_
  refine W_region ?_
  refine L_assign rfl rfl ?_
  refine L_nil ?_
  refine W_block ?_
  refine W_while (σ := Int × Int) GT.dat (fun ((v1_0, v1_1) : Int × Int) => [(3, .int .i64 v1_0), (4, .int .i64 v1_1)]) (fun ((v1_0, v1_1) : Int × Int) => []) [(0, _)] [] (4294967295, 0) hp (Sub.cons rfl (Sub.cons rfl (Sub.cons rfl (Sub.nil _)))) (MSub.nil _) ?_
  clear hp
  rintro ⟨v1_0, v1_1⟩ x1 hp hx1
  try dsimp only [dat_pair, dat_int, dat_bool, dat_str, dat_ar] at hp
  refine W_weaken (l' := [(0, _), (3, _), (4, _)]) (Sub.cons rfl (Sub.cons rfl (Sub.cons rfl (Sub.nil _)))) (M' := []) (MSub.nil _) ?_
  refine W_seq ?_
  refine W_seq ?_
  refine W_region ?_
  refine L_move rfl rfl ?_
  refine L_move rfl rfl ?_
  refine L_lenT rfl rfl str9 ?_
  refine L_binV rfl rfl rfl bv_lss ?_
  refine L_nil ?_
  refine W_weaken (l' := [(0, _), (3, _), (4, _), (10, _)]) (Sub.cons rfl (Sub.cons rfl (Sub.cons rfl (Sub.cons rfl (Sub.nil _))))) (MSub.refl _) ?_
  refine W_cond rfl (fun hc2 => ?_) (fun hc2 => ?_)
  · skip
    replace hp := cond_t hc2 hp
    refine W_skip ?_
    refine W_seq ?_
    refine W_block ?_
    refine W_seq ?_
    refine W_region ?_
    refine L_move rfl rfl ?_
    refine L_move rfl rfl ?_
    refine L_move rfl rfl ?_
    have ho := hp; clear hp; obtain ⟨y3, hy3, hp⟩ := bind_any ho; clear ho
    refine L_idxS rfl rfl rfl str9 hy3 ?_
    refine L_convInt rfl rfl und3 (by rw [und5]; rfl) ?_
    refine L_binV rfl rfl rfl bv_xor ?_
    refine L_assign rfl rfl ?_
    refine L_nil ?_
    refine W_seq ?_
    refine W_region ?_
    refine L_assign rfl rfl ?_
    refine L_nil ?_
    refine W_block ?_
    refine W_while (σ := Int × Int) GT.dat (fun ((v4_0, v4_1) : Int × Int) => [(3, .int .i64 v4_0), (5, .int .i64 v4_1)]) (fun ((v4_0, v4_1) : Int × Int) => []) [(0, _), (4, _)] [] (bits .xor .i64 v1_0 (IntKind.wrap .i64 y3), 0) hp (Sub.cons rfl (Sub.cons rfl (Sub.cons rfl (Sub.cons rfl (Sub.nil _))))) (MSub.nil _) ?_
    clear hp
    rintro ⟨v4_0, v4_1⟩ x4 hp hx4
    try dsimp only [dat_pair, dat_int, dat_bool, dat_str, dat_ar] at hp
    refine W_weaken (l' := [(0, _), (3, _), (4, _), (5, _)]) (Sub.cons rfl (Sub.cons rfl (Sub.cons rfl (Sub.cons rfl (Sub.nil _))))) (M' := []) (MSub.nil _) ?_
    refine W_seq ?_
    refine W_seq ?_
    refine W_region ?_
    refine L_move rfl rfl ?_
    refine L_binV rfl rfl rfl bv_lss ?_
    refine L_nil ?_
    refine W_weaken (l' := [(0, _), (3, _), (4, _), (5, _), (20, _)]) (Sub.cons rfl (Sub.cons rfl (Sub.cons rfl (Sub.cons rfl (Sub.cons rfl (Sub.nil _)))))) (MSub.refl _) ?_
    refine W_cond rfl (fun hc5 => ?_) (fun hc5 => ?_)
    · skip
      replace hp := cond_t hc5 hp
      refine W_skip ?_
      refine W_seq ?_
      refine W_block ?_
      refine W_seq ?_
      refine W_region ?_
      refine L_move rfl rfl ?_
      refine L_binV rfl rfl rfl (bv_rem (by decide)) ?_
      refine L_assign rfl rfl ?_
      refine L_nil ?_
      refine W_seq ?_
      refine W_region ?_
      refine L_move rfl rfl ?_
      refine L_binV rfl rfl rfl (bv_quo (by decide)) ?_
      refine L_assign rfl rfl ?_
      refine L_nil ?_
      refine W_seq ?_
      refine W_region ?_
      refine L_move rfl rfl ?_
      refine L_binV rfl rfl rfl bv_eql ?_
      refine L_nil ?_
      refine W_weaken (l' := [(0, _), (3, _), (4, _), (5, _), (28, _)]) (Sub.cons rfl (Sub.cons rfl (Sub.cons rfl (Sub.cons rfl (Sub.cons rfl (Sub.nil _)))))) (MSub.refl _) ?_
      refine W_cond rfl (fun hc6 => ?_) (fun hc6 => ?_)
      · skip
        replace hp := cond_t hc6 hp
        refine W_region ?_
        refine L_move rfl rfl ?_
        refine L_binV rfl rfl rfl bv_xor ?_
        refine L_assign rfl rfl ?_
        refine L_nil ?_
        refine W_region ?_
        refine L_move rfl rfl ?_
        refine L_binV rfl rfl rfl bv_add ?_
        refine L_assign rfl rfl ?_
        refine L_nil ?_
        exact ⟨(bits .xor .i64 (IntKind.wrap .i64 ((v4_0).tdiv 2)) 2197175160, IntKind.wrap .i64 (v4_1 + 1)), (Sub.cons rfl (Sub.cons rfl (Sub.cons rfl (Sub.cons rfl (Sub.nil _))))), (Arr.sub (MSub.nil _)), some_eq hp⟩
      · skip
        replace hp := cond_f hc6 hp
        refine W_skip ?_
        refine W_region ?_
        refine L_move rfl rfl ?_
        refine L_binV rfl rfl rfl bv_add ?_
        refine L_assign rfl rfl ?_
        refine L_nil ?_
        exact ⟨(IntKind.wrap .i64 ((v4_0).tdiv 2), IntKind.wrap .i64 (v4_1 + 1)), (Sub.cons rfl (Sub.cons rfl (Sub.cons rfl (Sub.cons rfl (Sub.nil _))))), (Arr.sub (MSub.nil _)), some_eq hp⟩
    · skip
      replace hp := cond_f hc5 hp
      refine W_exit ?_
      have ho := hp; clear hp; obtain ⟨a7, hp, hx_a7⟩ := map_any ho; clear ho
      obtain rfl := hx4 _ hx_a7
      refine W_region ?_
      refine L_move rfl rfl ?_
      refine L_binV rfl rfl rfl bv_add ?_
      refine L_assign rfl rfl ?_
      refine L_nil ?_
      exact ⟨(v4_0, IntKind.wrap .i64 (v1_1 + 1)), (Sub.cons rfl (Sub.cons rfl (Sub.cons rfl (Sub.nil _)))), (Arr.sub (MSub.nil _)), some_eq hp⟩
  · skip
    replace hp := cond_f hc2 hp
    refine W_exit ?_
    have ho := hp; clear hp; obtain ⟨a8, hp, hx_a8⟩ := map_any ho; clear ho
    obtain rfl := hx1 _ hx_a8
    refine W_seq ?_
    refine W_region ?_
    refine L_move rfl rfl ?_
    refine L_binV rfl rfl rfl bv_sub ?_
    refine L_assign rfl rfl ?_
    refine L_nil ?_
    obtain rfl := Option.some.inj hp
    refine W_ret ?_
    refine res1 rfl (ResOK.tmp rfl) ⟨rfl, rfl⟩ (MSub.nil _)

noncomputable def s_Fixed (a0 : Int) (a1 : Int) : Option ByteArray :=
  Option.bind (s_l1In a1 1 7) (fun y1 => cond ((!y1) || (decide (a0 < 0))) (some ByteArray.empty) (whileP (fun s3 : Int × ByteArray × Int => cond (decide (s3.2.2 < a1)) (Option.bind (u8P (IntKind.wrap .u8 ((s3.1).tmod 256))) (fun y5 => Option.bind (some ([y5] : List UInt8)) (fun y6 => Option.bind (catP (strP y6) s3.2.1) (fun y8 => some (.inl ((IntKind.wrap .i64 ((s3.1).tdiv 256), y8, IntKind.wrap .i64 (s3.2.2 + 1)))))))) (Option.map .inr (cond (decide (0 < s3.1)) (some ByteArray.empty) (some s3.2.1)))) (a0, ByteArray.empty, 0)))

theorem s_Fixed_walk (w : World) (a0 : Int) (a1 : Int)  (r : ByteArray) (hp : s_Fixed a0 a1 = some r) : Spec Try.prog 68 [.int .i64 a0, .int .i64 a1].toArray w [] (IsV (.string r)) := by
  refine Spec.intro Try.func68 rfl Try.ntmps68 rfl ?_
  unfold s_Fixed at hp
  try dsimp only [dat_pair, dat_int, dat_bool, dat_str, dat_ar] at hp
  refine W_seq ?_
  refine W_region ?_
  refine L_assign rfl rfl ?_
  refine L_nil ?_
  refine W_seq ?_
  refine W_seq ?_
  have ho := hp; clear hp; obtain ⟨y1, hy1, hp⟩ := bind_any ho; clear ho
  refine W_D0 [13] mix (by kernel_rfl) rfl ?_
  refine D_move GC.none (OpV.t rfl) ?_
  refine D_callX GC.none fn77 (OpVs.cons (OpV.t rfl) (OpVs.cons OpV.c (OpVs.cons OpV.c (OpVs.nil)))) (by exact fun hg w F hF hM => s_l1In_walk w a1 1 7  _ hy1) ?_
  refine D_not GC.none (OpV.t rfl) ?_
  refine D_move GC.none (OpV.t rfl) ?_
  refine D_move (GC.some rfl rfl) (OpV.t rfl) ?_
  refine D_bin (GC.some rfl rfl) (OpV.s rfl) OpV.c (fun hg => bv_lss) ?_
  refine D_or (cy := _) GC.none (OpV.t rfl) (OpV.s rfl) (fun h hb => ⟨h, hb⟩) ?_
  refine DV_nil ?_
  refine Give_is rfl rfl ?_
  refine Give_drop rfl ?_
  refine Give_drop rfl ?_
  refine Give_drop rfl ?_
  refine Give_drop rfl ?_
  refine Give_drop rfl ?_
  refine Give_drop rfl ?_
  refine Give_nil ?_
  refine W_weaken (l' := [(0, _), (1, _), (13, _)]) (Sub.cons rfl (Sub.cons rfl (Sub.cons rfl (Sub.nil _)))) (MSub.refl _) ?_
  refine W_cond rfl (fun hc2 => ?_) (fun hc2 => ?_)
  · skip
    replace hp := cond_t hc2 hp
    refine W_seq ?_
    refine W_region ?_
    refine L_assign rfl rfl ?_
    refine L_nil ?_
    obtain rfl := Option.some.inj hp
    refine W_ret ?_
    refine res1 rfl (ResOK.tmp rfl) ⟨rfl, rfl⟩ (MSub.nil _)
  · skip
    replace hp := cond_f hc2 hp
    refine W_skip ?_
    refine W_seq ?_
    refine W_region ?_
    refine L_assign rfl rfl ?_
    refine L_nil ?_
    refine W_seq ?_
    refine W_seq ?_
    refine W_region ?_
    refine L_assign rfl rfl ?_
    refine L_nil ?_
    refine W_block ?_
    refine W_while (σ := Int × ByteArray × Int) GT.dat (fun ((v3_0, v3_1, v3_2) : Int × ByteArray × Int) => [(0, .int .i64 v3_0), (5, .string v3_1), (6, .int .i64 v3_2)]) (fun ((v3_0, v3_1, v3_2) : Int × ByteArray × Int) => []) [(1, _)] [] (a0, ByteArray.empty, 0) hp (Sub.cons rfl (Sub.cons rfl (Sub.cons rfl (Sub.cons rfl (Sub.nil _))))) (MSub.nil _) ?_
    clear hp
    rintro ⟨v3_0, v3_1, v3_2⟩ x3 hp hx3
    try dsimp only [dat_pair, dat_int, dat_bool, dat_str, dat_ar] at hp
    refine W_weaken (l' := [(0, _), (1, _), (5, _), (6, _)]) (Sub.cons rfl (Sub.cons rfl (Sub.cons rfl (Sub.cons rfl (Sub.nil _))))) (M' := []) (MSub.nil _) ?_
    refine W_seq ?_
    refine W_seq ?_
    refine W_region ?_
    refine L_move rfl rfl ?_
    refine L_move rfl rfl ?_
    refine L_binV rfl rfl rfl bv_lss ?_
    refine L_nil ?_
    refine W_weaken (l' := [(0, _), (1, _), (5, _), (6, _), (16, _)]) (Sub.cons rfl (Sub.cons rfl (Sub.cons rfl (Sub.cons rfl (Sub.cons rfl (Sub.nil _)))))) (MSub.refl _) ?_
    refine W_cond rfl (fun hc4 => ?_) (fun hc4 => ?_)
    · skip
      replace hp := cond_t hc4 hp
      refine W_skip ?_
      refine W_seq ?_
      refine W_block ?_
      refine W_seq ?_
      refine W_region ?_
      refine L_move rfl rfl ?_
      refine L_binV rfl rfl rfl (bv_rem (by decide)) ?_
      refine L_convInt rfl rfl und5 (by rw [und3]; rfl) ?_
      have ho := hp; clear hp; obtain ⟨y5, hy5, hp⟩ := bind_any ho; clear ho
      have ey5 := u8P_some hy5
      try simp only [ey5]
      have ho := hp; clear hp; obtain ⟨y6, hy6, hp⟩ := bind_any ho; clear ho
      refine L_bsN ([y5] : List UInt8) (xs := [(0, .tmp 21)]) rfl rfl el22 rfl rfl rfl rfl rfl rfl rfl hy6 (fun X7 hdX7 => ?_)
      subst hdX7
      refine L_toStr (X := X7) rfl rfl und22 und5 und9 (RdT.tree (by first | (with_reducible repeat (first | exact List.Mem.head _ | apply List.Mem.tail)); done | (repeat (first | exact List.Mem.head _ | apply List.Mem.tail)))) ?_
      refine L_move rfl rfl ?_
      have ho := hp; clear hp; obtain ⟨y8, hy8, hp⟩ := bind_any ho; clear ho
      refine L_binV rfl rfl rfl (bv_saddP hy8) ?_
      refine L_assign rfl rfl ?_
      refine L_nil ?_
      refine W_region ?_
      refine L_move rfl rfl ?_
      refine L_binV rfl rfl rfl (bv_quo (by decide)) ?_
      refine L_assign rfl rfl ?_
      refine L_nil ?_
      refine W_region ?_
      refine L_move rfl rfl ?_
      refine L_binV rfl rfl rfl bv_add ?_
      refine L_assign rfl rfl ?_
      refine L_nil ?_
      exact ⟨(IntKind.wrap .i64 ((v3_0).tdiv 256), y8, IntKind.wrap .i64 (v3_2 + 1)), (Sub.cons rfl (Sub.cons rfl (Sub.cons rfl (Sub.cons rfl (Sub.nil _))))), (Arr.sub (MSub.nil _)), some_eq hp⟩
    · skip
      replace hp := cond_f hc4 hp
      refine W_exit ?_
      have ho := hp; clear hp; obtain ⟨a9, hp, hx_a9⟩ := map_any ho; clear ho
      obtain rfl := hx3 _ hx_a9
      refine W_seq ?_
      refine W_seq ?_
      refine W_region ?_
      refine L_move rfl rfl ?_
      refine L_binV rfl rfl rfl bv_gtr ?_
      refine L_nil ?_
      refine W_weaken (l' := [(5, _), (29, _)]) (Sub.cons rfl (Sub.cons rfl (Sub.nil _))) (MSub.refl _) ?_
      refine W_cond rfl (fun hc10 => ?_) (fun hc10 => ?_)
      · skip
        replace hp := cond_t hc10 hp
        refine W_seq ?_
        refine W_region ?_
        refine L_assign rfl rfl ?_
        refine L_nil ?_
        obtain rfl := Option.some.inj hp
        refine W_ret ?_
        refine res1 rfl (ResOK.tmp rfl) ⟨rfl, rfl⟩ (MSub.nil _)
      · skip
        replace hp := cond_f hc10 hp
        refine W_skip ?_
        refine W_seq ?_
        refine W_region ?_
        refine L_move rfl rfl ?_
        refine L_assign rfl rfl ?_
        refine L_nil ?_
        obtain rfl := Option.some.inj hp
        refine W_ret ?_
        refine res1 rfl (ResOK.tmp rfl) ⟨rfl, rfl⟩ (MSub.nil _)

noncomputable def s_Frame (a0 : ByteArray) : Option ByteArray :=
  cond (decide (200 < (a0.size : Int))) (some ByteArray.empty) (Option.bind (s_l4Piece a0) (fun y2 => Option.bind (s_Crc y2) (fun y3 => Option.bind (s_Fixed y3 4) (fun y4 => Option.bind (catP y4 y2) (fun y5 => some y5)))))

theorem s_Frame_walk (w : World) (a0 : ByteArray)  (r : ByteArray) (hp : s_Frame a0 = some r) : Spec Try.prog 16 [.string a0].toArray w [] (IsV (.string r)) := by
  refine Spec.intro Try.func16 rfl Try.ntmps16 rfl ?_
  unfold s_Frame at hp
  try dsimp only [dat_pair, dat_int, dat_bool, dat_str, dat_ar] at hp
  refine W_seq ?_
  refine W_region ?_
  refine L_assign rfl rfl ?_
  refine L_nil ?_
  refine W_seq ?_
  refine W_seq ?_
  refine W_region ?_
  refine L_move rfl rfl ?_
  refine L_lenT rfl rfl str9 ?_
  refine L_binV rfl rfl rfl bv_gtr ?_
  refine L_nil ?_
  refine W_weaken (l' := [(0, _), (6, _)]) (Sub.cons rfl (Sub.cons rfl (Sub.nil _))) (MSub.refl _) ?_
  refine W_cond rfl (fun hc1 => ?_) (fun hc1 => ?_)
  · skip
    replace hp := cond_t hc1 hp
    refine W_seq ?_
    refine W_region ?_
    refine L_assign rfl rfl ?_
    refine L_nil ?_
    obtain rfl := Option.some.inj hp
    refine W_ret ?_
    refine res1 rfl (ResOK.tmp rfl) ⟨rfl, rfl⟩ (MSub.nil _)
  · skip
    replace hp := cond_f hc1 hp
    refine W_skip ?_
    refine W_seq ?_
    refine W_region ?_
    refine L_move rfl rfl ?_
    have ho := hp; clear hp; obtain ⟨y2, hy2, hp⟩ := bind_any ho; clear ho
    refine L_callX rfl fn67 rfl (by exact fun w hw => s_l4Piece_walk w a0  _ hy2) ?_
    refine L_assign rfl rfl ?_
    refine L_nil ?_
    refine W_seq ?_
    refine W_region ?_
    refine L_move rfl rfl ?_
    have ho := hp; clear hp; obtain ⟨y3, hy3, hp⟩ := bind_any ho; clear ho
    refine L_callX rfl fn69 rfl (by exact fun w hw => s_Crc_walk w y2  _ hy3) ?_
    have ho := hp; clear hp; obtain ⟨y4, hy4, hp⟩ := bind_any ho; clear ho
    refine L_callX rfl fn68 rfl (by exact fun w hw => s_Fixed_walk w y3 4  _ hy4) ?_
    refine L_move rfl rfl ?_
    have ho := hp; clear hp; obtain ⟨y5, hy5, hp⟩ := bind_any ho; clear ho
    refine L_binV rfl rfl rfl (bv_saddP hy5) ?_
    refine L_assign rfl rfl ?_
    refine L_nil ?_
    obtain rfl := Option.some.inj hp
    refine W_ret ?_
    refine res1 rfl (ResOK.tmp rfl) ⟨rfl, rfl⟩ (MSub.nil _)

noncomputable def s_l1Spoil (a0 : D_l1Cur) (a1 : ByteArray) : Option (ByteArray × D_l1Cur) :=
  cond (decide ((a1.size : Int) = 0)) (Option.bind (s_l1Text (a0.1, a0.2.1, a0.2.2) 3) (fun y2 => some (y2.1, (y2.2.1, y2.2.2.1, y2.2.2.2)))) (Option.bind (s_l1Below (a0.1, a0.2.1, a0.2.2) (a1.size : Int)) (fun y3 => Option.bind (s_l1Below (y3.2.1, y3.2.2.1, y3.2.2.2) 4) (fun y4 => cond (decide (y4.1 = 0)) (Option.bind (sslP a1 0 y3.1) (fun y6 => Option.bind (sslP a1 (IntKind.wrap .i64 (y3.1 + 1)) (a1.size : Int)) (fun y7 => Option.bind (catP y6 y7) (fun y8 => some (y8, (y4.2.1, y4.2.2.1, y4.2.2.2)))))) (cond (decide (y4.1 = 1)) (Option.bind (sslP a1 0 y3.1) (fun y10 => Option.bind (s_l1Byte (y4.2.1, y4.2.2.1, y4.2.2.2)) (fun y11 => Option.bind (u8P (IntKind.wrap .u8 y11.1)) (fun y12 => Option.bind (some ([y12] : List UInt8)) (fun y13 => Option.bind (catP y10 (strP y13)) (fun y15 => Option.bind (sslP a1 y3.1 (a1.size : Int)) (fun y16 => Option.bind (catP y15 y16) (fun y17 => some (y17, (y11.2.1, y11.2.2.1, y11.2.2.2)))))))))) (cond (decide (y4.1 = 2)) (Option.bind (sslP a1 0 y3.1) (fun y19 => some (y19, (y4.2.1, y4.2.2.1, y4.2.2.2)))) (Option.bind (sslP a1 0 y3.1) (fun y20 => Option.bind (sidx a1 y3.1) (fun y21 => Option.bind (s_l1Below (y4.2.1, y4.2.2.1, y4.2.2.2) 255) (fun y22 => Option.bind (u8P (IntKind.wrap .u8 (bits .xor .i64 (IntKind.wrap .i64 y21) (IntKind.wrap .i64 (1 + y22.1))))) (fun y23 => Option.bind (some ([y23] : List UInt8)) (fun y24 => Option.bind (catP y20 (strP y24)) (fun y26 => Option.bind (sslP a1 (IntKind.wrap .i64 (y3.1 + 1)) (a1.size : Int)) (fun y27 => Option.bind (catP y26 y27) (fun y28 => some (y28, (y22.2.1, y22.2.2.1, y22.2.2.2))))))))))))))))

theorem s_l1Spoil_walk (w : World) (b0_ : Nat) (a0 : T_l1Cur) (a1 : ByteArray) (h0_0 : GT.rd w (fps [blk b0_ (GT.cells a0) 144]) a0.1) (r : ByteArray × D_l1Cur) (hp : s_l1Spoil (GT.dat a0) a1 = some r) : Spec Try.prog 61 [Value.pointer (some ⟨b0_, 0, none⟩), .string a1].toArray w [blk b0_ (GT.cells a0) 144] (fun v M => ∃ (x0 : ByteArray) (y0 : T_l1Cur), v = .string x0 ∧ (GT.dat x0, GT.dat y0) = r ∧ M = [blk b0_ (GT.cells y0) 144] ∧ y0.1 = a0.1) := by
  obtain ⟨a0_1, a0_2, a0_3⟩ := a0
  change Spec _ _ ([Value.pointer (some ⟨b0_, 0, none⟩), .string a1] : List Value).toArray w _ _
  refine Spec.intro Try.func61 rfl Try.ntmps61 rfl ?_
  unfold s_l1Spoil at hp
  try dsimp only [dat_pair, dat_int, dat_bool, dat_str, dat_ar] at hp
  refine W_seq ?_
  refine W_region ?_
  refine L_assign rfl rfl ?_
  refine L_nil ?_
  refine W_seq ?_
  refine W_seq ?_
  refine W_region ?_
  refine L_move rfl rfl ?_
  refine L_lenT rfl rfl str9 ?_
  refine L_binV rfl rfl rfl bv_eql ?_
  refine L_nil ?_
  refine W_weaken (l' := [(0, _), (1, _), (8, _)]) (Sub.cons rfl (Sub.cons rfl (Sub.cons rfl (Sub.nil _)))) (MSub.refl _) ?_
  refine W_cond rfl (fun hc1 => ?_) (fun hc1 => ?_)
  · skip
    replace hp := cond_t hc1 hp
    refine W_seq ?_
    refine W_region ?_
    refine L_move rfl rfl ?_
    have ho := hp; clear hp; obtain ⟨y2, hy2, hp⟩ := bind_any ho; clear ho
    refine L_callM [blk b0_ _ _] _ rfl fn60 rfl (perm_cons (by first | (with_reducible repeat (first | exact Pick.here _ | apply Pick.there)); done | (repeat (first | exact Pick.here _ | apply Pick.there))) (perm_nil_left _)) (by exact fun w hw => s_l1Text_walk w b0_ (a0_1, a0_2, a0_3) 3 ((RdX.old h0_0) w hw) _ hy2) ?_
    rintro vy2 My2 ⟨y2x0, y2y0, hvy2, hdy2, rfl, hey2_0⟩
    subst hvy2
    subst hdy2
    obtain ⟨y2y0_1, y2y0_2, y2y0_3⟩ := y2y0
    obtain rfl : a0_1 = y2y0_1 := hey2_0.symm
    simp only [cells_pair, cells_int, cells_bool, cells_str, cells_TL, List.cons_append, List.nil_append]
    try dsimp only [dat_pair, dat_int, dat_bool, dat_str, dat_ar] at hp
    refine L_assign rfl rfl ?_
    refine L_nil ?_
    obtain rfl := Option.some.inj hp
    refine W_ret ?_
    refine res1 rfl (ResOK.tmp rfl) ⟨y2x0, (a0_1, y2y0_2, y2y0_3), rfl, rfl, rfl, rfl⟩ (MSub.cons (by first | (with_reducible repeat (first | exact Pick.here _ | apply Pick.there)); done | (repeat (first | exact Pick.here _ | apply Pick.there))) (MSub.nil _))
  · skip
    replace hp := cond_f hc1 hp
    refine W_skip ?_
    refine W_seq ?_
    refine W_region ?_
    refine L_move rfl rfl ?_
    refine L_move rfl rfl ?_
    refine L_lenT rfl rfl str9 ?_
    have ho := hp; clear hp; obtain ⟨y3, hy3, hp⟩ := bind_any ho; clear ho
    refine L_callM [blk b0_ _ _] _ rfl fn59 rfl (perm_cons (by first | (with_reducible repeat (first | exact Pick.here _ | apply Pick.there)); done | (repeat (first | exact Pick.here _ | apply Pick.there))) (perm_nil_left _)) (by exact fun w hw => s_l1Below_walk w b0_ (a0_1, a0_2, a0_3) (a1.size : Int) ((RdX.old h0_0) w hw) _ hy3) ?_
    rintro vy3 My3 ⟨y3x0, y3y0, hvy3, hdy3, rfl, hey3_0⟩
    subst hvy3
    subst hdy3
    obtain ⟨y3y0_1, y3y0_2, y3y0_3⟩ := y3y0
    obtain rfl : a0_1 = y3y0_1 := hey3_0.symm
    simp only [cells_pair, cells_int, cells_bool, cells_str, cells_TL, List.cons_append, List.nil_append]
    try dsimp only [dat_pair, dat_int, dat_bool, dat_str, dat_ar] at hp
    refine L_assign rfl rfl ?_
    refine L_nil ?_
    refine W_seq ?_
    refine W_seq ?_
    refine W_region ?_
    refine L_move rfl rfl ?_
    have ho := hp; clear hp; obtain ⟨y4, hy4, hp⟩ := bind_any ho; clear ho
    refine L_callM [blk b0_ _ _] _ rfl fn59 rfl (perm_cons (by first | (with_reducible repeat (first | exact Pick.here _ | apply Pick.there)); done | (repeat (first | exact Pick.here _ | apply Pick.there))) (perm_nil_left _)) (by exact fun w hw => s_l1Below_walk w b0_ (a0_1, y3y0_2, y3y0_3) 4 ((RdX.old h0_0) w hw) _ hy4) ?_
    rintro vy4 My4 ⟨y4x0, y4y0, hvy4, hdy4, rfl, hey4_0⟩
    subst hvy4
    subst hdy4
    obtain ⟨y4y0_1, y4y0_2, y4y0_3⟩ := y4y0
    obtain rfl : a0_1 = y4y0_1 := hey4_0.symm
    simp only [cells_pair, cells_int, cells_bool, cells_str, cells_TL, List.cons_append, List.nil_append]
    try dsimp only [dat_pair, dat_int, dat_bool, dat_str, dat_ar] at hp
    refine L_nil ?_
    refine W_block ?_
    refine W_seq ?_
    refine W_region ?_
    refine L_binV rfl rfl rfl bv_eql ?_
    refine L_assign rfl rfl ?_
    refine L_nil ?_
    refine W_weaken (l' := [(0, _), (1, _), (5, _), (16, _), (17, _)]) (Sub.cons rfl (Sub.cons rfl (Sub.cons rfl (Sub.cons rfl (Sub.cons rfl (Sub.nil _)))))) (MSub.refl _) ?_
    refine W_cond rfl (fun hc5 => ?_) (fun hc5 => ?_)
    · skip
      replace hp := cond_t hc5 hp
      refine W_seq ?_
      have ho := hp; clear hp; obtain ⟨y6, hy6, hp⟩ := bind_any ho; clear ho
      have ho := hp; clear hp; obtain ⟨y7, hy7, hp⟩ := bind_any ho; clear ho
      have ho := hp; clear hp; obtain ⟨y8, hy8, hp⟩ := bind_any ho; clear ho
      refine W_D0 [4] mix (by kernel_rfl) rfl ?_
      refine D_move GC.none (OpV.t rfl) ?_
      refine D_move GC.none (OpV.t rfl) ?_
      refine D_ssl GC.none (OpV.t rfl) optD.none (optD.some (OpV.t rfl)) str9 (fun hg => hy6) ?_
      refine D_move GC.none (OpV.t rfl) ?_
      refine D_move GC.none (OpV.t rfl) ?_
      refine D_bin GC.none (OpV.t rfl) OpV.c (fun hg => bv_add) ?_
      refine D_ssl GC.none (OpV.t rfl) (optD.some (OpV.t rfl)) optD.none str9 (fun hg => hy7) ?_
      refine D_bin GC.none (OpV.t rfl) (OpV.t rfl) (fun hg => (bv_saddP hy8)) ?_
      refine D_assign GC.none (OpV.t rfl) ?_
      refine DV_nil ?_
      refine Give_is rfl rfl ?_
      refine Give_drop rfl ?_
      refine Give_drop rfl ?_
      refine Give_drop rfl ?_
      refine Give_drop rfl ?_
      refine Give_drop rfl ?_
      refine Give_drop rfl ?_
      refine Give_drop rfl ?_
      refine Give_drop rfl ?_
      refine Give_nil ?_
      obtain rfl := Option.some.inj hp
      refine W_ret ?_
      refine res1 rfl (ResOK.tmp rfl) ⟨y8, (a0_1, y4y0_2, y4y0_3), rfl, rfl, rfl, rfl⟩ (MSub.cons (by first | (with_reducible repeat (first | exact Pick.here _ | apply Pick.there)); done | (repeat (first | exact Pick.here _ | apply Pick.there))) (MSub.nil _))
    · skip
      replace hp := cond_f hc5 hp
      refine W_seq ?_
      refine W_region ?_
      refine L_binV rfl rfl rfl bv_eql ?_
      refine L_assign rfl rfl ?_
      refine L_nil ?_
      refine W_weaken (l' := [(0, _), (1, _), (5, _), (16, _), (27, _)]) (Sub.cons rfl (Sub.cons rfl (Sub.cons rfl (Sub.cons rfl (Sub.cons rfl (Sub.nil _)))))) (MSub.refl _) ?_
      refine W_cond rfl (fun hc9 => ?_) (fun hc9 => ?_)
      · skip
        replace hp := cond_t hc9 hp
        refine W_seq ?_
        have ho := hp; clear hp; obtain ⟨y10, hy10, hp⟩ := bind_any ho; clear ho
        have ho := hp; clear hp; obtain ⟨y11, hy11, hp⟩ := bind_any ho; clear ho
        have ho := hp; clear hp; obtain ⟨y12, hy12, hp⟩ := bind_any ho; clear ho
        have ey12 := u8P_some hy12
        try simp only [ey12]
        have ho := hp; clear hp; obtain ⟨y13, hy13, hp⟩ := bind_any ho; clear ho
        have ho := hp; clear hp; obtain ⟨y15, hy15, hp⟩ := bind_any ho; clear ho
        have ho := hp; clear hp; obtain ⟨y16, hy16, hp⟩ := bind_any ho; clear ho
        have ho := hp; clear hp; obtain ⟨y17, hy17, hp⟩ := bind_any ho; clear ho
        refine W_DS (pre := [_, _, _, _, _, _, _, _, _, _, _, _, _, _]) (suf := []) [4, 33] [blk b0_ _ 144] _ (perm_cons (by first | (with_reducible repeat (first | exact Pick.here _ | apply Pick.there)); done | (repeat (first | exact Pick.here _ | apply Pick.there))) (perm_nil_left _)) mix (by kernel_rfl) (by kernel_rfl) rfl ?_
        refine D_move GC.none (OpV.t rfl) ?_
        refine D_move GC.none (OpV.t rfl) ?_
        refine D_ssl GC.none (OpV.t rfl) optD.none (optD.some (OpV.t rfl)) str9 (fun hg => hy10) ?_
        refine D_move GC.none (OpV.t rfl) ?_
        refine D_callM (fun v M => ∃ (x0 : Int) (y0 : T_l1Cur), v = .int .i64 x0 ∧ (GT.dat x0, GT.dat y0) = y11 ∧ M = [blk b0_ (GT.cells y0) 144] ∧ y0.1 = a0_1) [blk b0_ _ 144] (perm_cons (by first | (with_reducible repeat (first | exact Pick.here _ | apply Pick.there)); done | (repeat (first | exact Pick.here _ | apply Pick.there))) (perm_nil_left _)) fn120 (OpVs.cons (OpV.t rfl) (OpVs.nil)) (by exact fun w F hw hM => s_l1Byte_walk w b0_ (a0_1, y4y0_2, y4y0_3) ((RdX.old h0_0) w hw) _ hy11) ?_
        refine D_convInt GC.none (show OpV _ _ _ (.int .i64 y11.1) from ⟨_, rfl, fun u M h hc => by obtain ⟨x0, z0, hv, hd, _⟩ := h; subst hd; exact hv⟩) und5 (by rw [und3]; rfl) ?_
        refine D_bsN ([y12] : List UInt8) (xs := [(0, .tmp 34)]) (ps := [(0, .int .u8 (y12.toNat : Int))]) (OpVp.cons (by rw [← ey12]; exact (OpV.t rfl)) (OpVp.nil)) el22 rfl rfl rfl rfl rfl rfl rfl hy13 ?_
        refine D_toStrO (r := y13) (t := 35) rfl und22 und5 und9 (by kernel_rfl) ?_
        refine D_bin GC.none (OpV.t rfl) (OpV.t rfl) (fun hg => (bv_saddP hy15)) ?_
        refine D_move GC.none (OpV.t rfl) ?_
        refine D_move GC.none (OpV.t rfl) ?_
        refine D_ssl GC.none (OpV.t rfl) (optD.some (OpV.t rfl)) optD.none str9 (fun hg => hy16) ?_
        refine D_bin GC.none (OpV.t rfl) (OpV.t rfl) (fun hg => (bv_saddP hy17)) ?_
        refine D_assign GC.none (OpV.t rfl) ?_
        refine DV_nil ?_
        refine Give_is rfl rfl ?_
        refine Give_drop rfl ?_
        refine Give_drop rfl ?_
        refine Give_drop rfl ?_
        refine Give_drop rfl ?_
        refine Give_drop rfl ?_
        refine Give_drop rfl ?_
        refine Give_cons rfl ?_
        refine Give_drop rfl ?_
        refine Give_R rfl rfl ?_
        rintro vy11 My11 ⟨y11x0, y11y0, hvy11, hdy11, rfl, hey11_0⟩
        subst hvy11
        subst hdy11
        obtain ⟨y11y0_1, y11y0_2, y11y0_3⟩ := y11y0
        obtain rfl : a0_1 = y11y0_1 := hey11_0.symm
        refine Give_drop rfl ?_
        refine Give_drop rfl ?_
        refine Give_drop rfl ?_
        refine Give_drop rfl ?_
        refine Give_nil ?_
        simp only [cells_pair, cells_int, cells_bool, cells_str, cells_TL, List.cons_append, List.nil_append]
        try dsimp only [dat_pair, dat_int, dat_bool, dat_str, dat_ar] at hp
        refine L_nil ?_
        obtain rfl := Option.some.inj hp
        refine W_ret ?_
        refine res1 rfl (ResOK.tmp rfl) ⟨y17, (a0_1, y11y0_2, y11y0_3), rfl, rfl, rfl, rfl⟩ (MSub.cons (by first | (with_reducible repeat (first | exact Pick.here _ | apply Pick.there)); done | (repeat (first | exact Pick.here _ | apply Pick.there))) (MSub.nil _))
      · skip
        replace hp := cond_f hc9 hp
        refine W_seq ?_
        refine W_region ?_
        refine L_binV rfl rfl rfl bv_eql ?_
        refine L_assign rfl rfl ?_
        refine L_nil ?_
        refine W_weaken (l' := [(0, _), (1, _), (5, _), (42, _)]) (Sub.cons rfl (Sub.cons rfl (Sub.cons rfl (Sub.cons rfl (Sub.nil _))))) (MSub.refl _) ?_
        refine W_cond rfl (fun hc18 => ?_) (fun hc18 => ?_)
        · skip
          replace hp := cond_t hc18 hp
          refine W_seq ?_
          refine W_region ?_
          refine L_move rfl rfl ?_
          refine L_move rfl rfl ?_
          have ho := hp; clear hp; obtain ⟨y19, hy19, hp⟩ := bind_any ho; clear ho
          refine L_ssl rfl rfl rfl rfl str9 hy19 ?_
          refine L_assign rfl rfl ?_
          refine L_nil ?_
          obtain rfl := Option.some.inj hp
          refine W_ret ?_
          refine res1 rfl (ResOK.tmp rfl) ⟨y19, (a0_1, y4y0_2, y4y0_3), rfl, rfl, rfl, rfl⟩ (MSub.cons (by first | (with_reducible repeat (first | exact Pick.here _ | apply Pick.there)); done | (repeat (first | exact Pick.here _ | apply Pick.there))) (MSub.nil _))
        · skip
          replace hp := cond_f hc18 hp
          refine W_skip ?_
          refine W_seq ?_
          have ho := hp; clear hp; obtain ⟨y20, hy20, hp⟩ := bind_any ho; clear ho
          have ho := hp; clear hp; obtain ⟨y21, hy21, hp⟩ := bind_any ho; clear ho
          have ho := hp; clear hp; obtain ⟨y22, hy22, hp⟩ := bind_any ho; clear ho
          have ho := hp; clear hp; obtain ⟨y23, hy23, hp⟩ := bind_any ho; clear ho
          have ey23 := u8P_some hy23
          try simp only [ey23]
          have ho := hp; clear hp; obtain ⟨y24, hy24, hp⟩ := bind_any ho; clear ho
          have ho := hp; clear hp; obtain ⟨y26, hy26, hp⟩ := bind_any ho; clear ho
          have ho := hp; clear hp; obtain ⟨y27, hy27, hp⟩ := bind_any ho; clear ho
          have ho := hp; clear hp; obtain ⟨y28, hy28, hp⟩ := bind_any ho; clear ho
          refine W_DS (pre := [_, _, _, _, _, _, _, _, _, _, _, _, _, _, _, _, _, _, _, _, _]) (suf := []) [4, 55] [blk b0_ _ 144] _ (perm_cons (by first | (with_reducible repeat (first | exact Pick.here _ | apply Pick.there)); done | (repeat (first | exact Pick.here _ | apply Pick.there))) (perm_nil_left _)) mix (by kernel_rfl) (by kernel_rfl) rfl ?_
          refine D_move GC.none (OpV.t rfl) ?_
          refine D_move GC.none (OpV.t rfl) ?_
          refine D_ssl GC.none (OpV.t rfl) optD.none (optD.some (OpV.t rfl)) str9 (fun hg => hy20) ?_
          refine D_move GC.none (OpV.t rfl) ?_
          refine D_move GC.none (OpV.t rfl) ?_
          refine D_idxS GC.none (OpV.t rfl) (OpV.t rfl) str9 (fun hg => hy21) ?_
          refine D_convInt GC.none (OpV.t rfl) und3 (by rw [und5]; rfl) ?_
          refine D_move GC.none (OpV.t rfl) ?_
          refine D_callM (fun v M => ∃ (x0 : Int) (y0 : T_l1Cur), v = .int .i64 x0 ∧ (GT.dat x0, GT.dat y0) = y22 ∧ M = [blk b0_ (GT.cells y0) 144] ∧ y0.1 = a0_1) [blk b0_ _ 144] (perm_cons (by first | (with_reducible repeat (first | exact Pick.here _ | apply Pick.there)); done | (repeat (first | exact Pick.here _ | apply Pick.there))) (perm_nil_left _)) fn59 (OpVs.cons (OpV.t rfl) (OpVs.cons OpV.c (OpVs.nil))) (by exact fun w F hw hM => s_l1Below_walk w b0_ (a0_1, y4y0_2, y4y0_3) 255 ((RdX.old h0_0) w hw) _ hy22) ?_
          refine D_bin GC.none OpV.c (show OpV _ _ _ (.int .i64 y22.1) from ⟨_, rfl, fun u M h hc => by obtain ⟨x0, z0, hv, hd, _⟩ := h; subst hd; exact hv⟩) (fun hg => bv_add) ?_
          refine D_bin GC.none (OpV.t rfl) (OpV.t rfl) (fun hg => bv_xor) ?_
          refine D_convInt GC.none (OpV.t rfl) und5 (by rw [und3]; rfl) ?_
          refine D_bsN ([y23] : List UInt8) (xs := [(0, .tmp 58)]) (ps := [(0, .int .u8 (y23.toNat : Int))]) (OpVp.cons (by rw [← ey23]; exact (OpV.t rfl)) (OpVp.nil)) el22 rfl rfl rfl rfl rfl rfl rfl hy24 ?_
          refine D_toStrO (r := y24) (t := 59) rfl und22 und5 und9 (by kernel_rfl) ?_
          refine D_bin GC.none (OpV.t rfl) (OpV.t rfl) (fun hg => (bv_saddP hy26)) ?_
          refine D_move GC.none (OpV.t rfl) ?_
          refine D_move GC.none (OpV.t rfl) ?_
          refine D_bin GC.none (OpV.t rfl) OpV.c (fun hg => bv_add) ?_
          refine D_ssl GC.none (OpV.t rfl) (optD.some (OpV.t rfl)) optD.none str9 (fun hg => hy27) ?_
          refine D_bin GC.none (OpV.t rfl) (OpV.t rfl) (fun hg => (bv_saddP hy28)) ?_
          refine D_assign GC.none (OpV.t rfl) ?_
          refine DV_nil ?_
          refine Give_is rfl rfl ?_
          refine Give_drop rfl ?_
          refine Give_drop rfl ?_
          refine Give_drop rfl ?_
          refine Give_drop rfl ?_
          refine Give_drop rfl ?_
          refine Give_drop rfl ?_
          refine Give_drop rfl ?_
          refine Give_cons rfl ?_
          refine Give_drop rfl ?_
          refine Give_drop rfl ?_
          refine Give_drop rfl ?_
          refine Give_R rfl rfl ?_
          rintro vy22 My22 ⟨y22x0, y22y0, hvy22, hdy22, rfl, hey22_0⟩
          subst hvy22
          subst hdy22
          obtain ⟨y22y0_1, y22y0_2, y22y0_3⟩ := y22y0
          obtain rfl : a0_1 = y22y0_1 := hey22_0.symm
          refine Give_drop rfl ?_
          refine Give_drop rfl ?_
          refine Give_drop rfl ?_
          refine Give_drop rfl ?_
          refine Give_drop rfl ?_
          refine Give_drop rfl ?_
          refine Give_drop rfl ?_
          refine Give_drop rfl ?_
          refine Give_nil ?_
          simp only [cells_pair, cells_int, cells_bool, cells_str, cells_TL, List.cons_append, List.nil_append]
          try dsimp only [dat_pair, dat_int, dat_bool, dat_str, dat_ar] at hp
          refine L_nil ?_
          obtain rfl := Option.some.inj hp
          refine W_ret ?_
          refine res1 rfl (ResOK.tmp rfl) ⟨y28, (a0_1, y22y0_2, y22y0_3), rfl, rfl, rfl, rfl⟩ (MSub.cons (by first | (with_reducible repeat (first | exact Pick.here _ | apply Pick.there)); done | (repeat (first | exact Pick.here _ | apply Pick.there))) (MSub.nil _))

noncomputable def s_DrawUnframe (a0 : List UInt8) : Option ByteArray :=
  Option.bind (s_l1New a0) (fun y1 => Option.bind (s_l1Below (y1.1, y1.2.1, y1.2.2) 6) (fun y2 => whileP (fun s3 : ByteArray × Int × Int × Int => cond (decide (0 < s3.2.1)) (Option.bind (s_l1Text (y2.2.1, s3.2.2.1, s3.2.2.2) 8) (fun y5 => Option.bind (s_Frame y5.1) (fun y6 => Option.bind (catP s3.1 y6) (fun y7 => some (.inl ((y7, IntKind.wrap .i64 (s3.2.1 - 1), y5.2.2.1, y5.2.2.2))))))) (Option.map .inr (Option.bind (s_l1Below (y2.2.1, s3.2.2.1, s3.2.2.2) 5) (fun y9 => cond (decide (y9.1 = 0)) (Option.bind (s_l1Spoil (y9.2.1, y9.2.2.1, y9.2.2.2) s3.1) (fun y11 => some y11.1)) (cond (decide (y9.1 = 1)) (Option.bind (s_l1Text (y9.2.1, y9.2.2.1, y9.2.2.2) 9) (fun y13 => Option.bind (catP s3.1 y13.1) (fun y14 => some y14))) (cond (decide (y9.1 = 2)) (Option.bind (s_l1Below (y9.2.1, y9.2.2.1, y9.2.2.2) (IntKind.wrap .i64 ((s3.1.size : Int) + 1))) (fun y16 => Option.bind (sslP s3.1 0 y16.1) (fun y17 => some y17))) (some s3.1))))))) (ByteArray.empty, y2.1, y2.2.2.1, y2.2.2.2)))

theorem s_DrawUnframe_walk (w : World) (a0 : TL UInt8) (h0 : GT.rd w [] a0) (r : ByteArray) (hp : s_DrawUnframe (GT.dat a0) = some r) : Spec Try.prog 10 [(TL.hdr a0)].toArray w [] (IsV (.string r)) := by
  refine Spec.intro Try.func10 rfl Try.ntmps10 rfl ?_
  unfold s_DrawUnframe at hp
  try dsimp only [dat_pair, dat_int, dat_bool, dat_str, dat_ar] at hp
  refine W_seq ?_
  refine W_region ?_
  refine L_assign rfl rfl ?_
  refine L_nil ?_
  refine W_seq ?_
  refine W_region ?_
  refine L_move rfl rfl ?_
  have ho := hp; clear hp; obtain ⟨y1, hy1, hp⟩ := bind_any ho; clear ho
  refine L_callR rfl fn58 rfl (by exact fun w hw => s_l1New_walk w a0 (RdT.now (RdT.old h0) hw) _ hy1) ?_
  rintro vy1 My1 ⟨bky1, y1x, hvy1, hdy1, rfl, hey1_0⟩
  subst hvy1
  subst hdy1
  obtain ⟨y1x_1, y1x_2, y1x_3⟩ := y1x
  obtain rfl : a0 = y1x_1 := hey1_0.symm
  simp only [cells_pair, cells_int, cells_bool, cells_str, cells_TL, List.cons_append, List.nil_append]
  try dsimp only [dat_pair, dat_int, dat_bool, dat_str, dat_ar] at hp
  refine L_assign rfl rfl ?_
  refine L_nil ?_
  refine W_seq ?_
  refine W_region ?_
  refine L_assign rfl rfl ?_
  refine L_nil ?_
  refine W_seq ?_
  refine W_seq ?_
  refine W_region ?_
  refine L_move rfl rfl ?_
  have ho := hp; clear hp; obtain ⟨y2, hy2, hp⟩ := bind_any ho; clear ho
  refine L_callM [blk bky1 _ _] _ rfl fn59 rfl (perm_cons (by first | (with_reducible repeat (first | exact Pick.here _ | apply Pick.there)); done | (repeat (first | exact Pick.here _ | apply Pick.there))) (perm_nil_left _)) (by exact fun w hw => s_l1Below_walk w bky1 (a0, y1x_2, y1x_3) 6 ((RdX.old h0) w hw) _ hy2) ?_
  rintro vy2 My2 ⟨y2x0, y2y0, hvy2, hdy2, rfl, hey2_0⟩
  subst hvy2
  subst hdy2
  obtain ⟨y2y0_1, y2y0_2, y2y0_3⟩ := y2y0
  obtain rfl : a0 = y2y0_1 := hey2_0.symm
  simp only [cells_pair, cells_int, cells_bool, cells_str, cells_TL, List.cons_append, List.nil_append]
  try dsimp only [dat_pair, dat_int, dat_bool, dat_str, dat_ar] at hp
  refine L_assign rfl rfl ?_
  refine L_nil ?_
  refine W_block ?_
  refine W_while (σ := ByteArray × Int × Int × Int) GT.dat (fun ((v3_0, v3_1, v3_2, v3_3) : ByteArray × Int × Int × Int) => [(4, .string v3_0), (5, .int .i64 v3_1)]) (fun ((v3_0, v3_1, v3_2, v3_3) : ByteArray × Int × Int × Int) => [blk bky1 [(TL.hdr a0), .int .i64 v3_2, .int .i64 v3_3] 144]) [(3, _)] [] (ByteArray.empty, y2x0, y2y0_2, y2y0_3) hp (Sub.cons rfl (Sub.cons rfl (Sub.cons rfl (Sub.nil _)))) (MSub.cons (by first | (with_reducible repeat (first | exact Pick.here _ | apply Pick.there)); done | (repeat (first | exact Pick.here _ | apply Pick.there))) (MSub.nil _)) ?_
  clear hp
  rintro ⟨v3_0, v3_1, v3_2, v3_3⟩ x3 hp hx3
  try dsimp only [dat_pair, dat_int, dat_bool, dat_str, dat_ar] at hp
  refine W_weaken (l' := [(3, _), (4, _), (5, _)]) (Sub.cons rfl (Sub.cons rfl (Sub.cons rfl (Sub.nil _)))) (M' := [_]) (MSub.cons (by first | (with_reducible repeat (first | exact Pick.here _ | apply Pick.there)); done | (repeat (first | exact Pick.here _ | apply Pick.there))) (MSub.nil _)) ?_
  refine W_seq ?_
  refine W_seq ?_
  refine W_region ?_
  refine L_move rfl rfl ?_
  refine L_binV rfl rfl rfl bv_gtr ?_
  refine L_nil ?_
  refine W_weaken (l' := [(3, _), (4, _), (5, _), (11, _)]) (Sub.cons rfl (Sub.cons rfl (Sub.cons rfl (Sub.cons rfl (Sub.nil _))))) (MSub.refl _) ?_
  refine W_cond rfl (fun hc4 => ?_) (fun hc4 => ?_)
  · skip
    replace hp := cond_t hc4 hp
    refine W_skip ?_
    refine W_seq ?_
    refine W_block ?_
    refine W_region ?_
    refine L_move rfl rfl ?_
    refine L_move rfl rfl ?_
    have ho := hp; clear hp; obtain ⟨y5, hy5, hp⟩ := bind_any ho; clear ho
    refine L_callM [blk bky1 _ _] _ rfl fn60 rfl (perm_cons (by first | (with_reducible repeat (first | exact Pick.here _ | apply Pick.there)); done | (repeat (first | exact Pick.here _ | apply Pick.there))) (perm_nil_left _)) (by exact fun w hw => s_l1Text_walk w bky1 (a0, v3_2, v3_3) 8 ((RdX.old h0) w hw) _ hy5) ?_
    rintro vy5 My5 ⟨y5x0, y5y0, hvy5, hdy5, rfl, hey5_0⟩
    subst hvy5
    subst hdy5
    obtain ⟨y5y0_1, y5y0_2, y5y0_3⟩ := y5y0
    obtain rfl : a0 = y5y0_1 := hey5_0.symm
    simp only [cells_pair, cells_int, cells_bool, cells_str, cells_TL, List.cons_append, List.nil_append]
    try dsimp only [dat_pair, dat_int, dat_bool, dat_str, dat_ar] at hp
    have ho := hp; clear hp; obtain ⟨y6, hy6, hp⟩ := bind_any ho; clear ho
    refine L_callX rfl fn16 rfl (by exact fun w hw => s_Frame_walk w y5x0  _ hy6) ?_
    have ho := hp; clear hp; obtain ⟨y7, hy7, hp⟩ := bind_any ho; clear ho
    refine L_binV rfl rfl rfl (bv_saddP hy7) ?_
    refine L_assign rfl rfl ?_
    refine L_nil ?_
    refine W_region ?_
    refine L_move rfl rfl ?_
    refine L_binV rfl rfl rfl bv_sub ?_
    refine L_assign rfl rfl ?_
    refine L_nil ?_
    exact ⟨(y7, IntKind.wrap .i64 (v3_1 - 1), y5y0_2, y5y0_3), (Sub.cons rfl (Sub.cons rfl (Sub.cons rfl (Sub.nil _)))), (Arr.sub (MSub.cons (by first | (with_reducible repeat (first | exact Pick.here _ | apply Pick.there)); done | (repeat (first | exact Pick.here _ | apply Pick.there))) (MSub.nil _))), some_eq hp⟩
  · skip
    replace hp := cond_f hc4 hp
    refine W_exit ?_
    have ho := hp; clear hp; obtain ⟨a8, hp, hx_a8⟩ := map_any ho; clear ho
    obtain rfl := hx3 _ hx_a8
    refine W_seq ?_
    refine W_seq ?_
    refine W_region ?_
    refine L_move rfl rfl ?_
    have ho := hp; clear hp; obtain ⟨y9, hy9, hp⟩ := bind_any ho; clear ho
    refine L_callM [blk bky1 _ _] _ rfl fn59 rfl (perm_cons (by first | (with_reducible repeat (first | exact Pick.here _ | apply Pick.there)); done | (repeat (first | exact Pick.here _ | apply Pick.there))) (perm_nil_left _)) (by exact fun w hw => s_l1Below_walk w bky1 (a0, v3_2, v3_3) 5 ((RdX.old h0) w hw) _ hy9) ?_
    rintro vy9 My9 ⟨y9x0, y9y0, hvy9, hdy9, rfl, hey9_0⟩
    subst hvy9
    subst hdy9
    obtain ⟨y9y0_1, y9y0_2, y9y0_3⟩ := y9y0
    obtain rfl : a0 = y9y0_1 := hey9_0.symm
    simp only [cells_pair, cells_int, cells_bool, cells_str, cells_TL, List.cons_append, List.nil_append]
    try dsimp only [dat_pair, dat_int, dat_bool, dat_str, dat_ar] at hp
    refine L_nil ?_
    refine W_block ?_
    refine W_seq ?_
    refine W_region ?_
    refine L_binV rfl rfl rfl bv_eql ?_
    refine L_assign rfl rfl ?_
    refine L_nil ?_
    refine W_weaken (l' := [(3, _), (4, _), (20, _), (21, _)]) (Sub.cons rfl (Sub.cons rfl (Sub.cons rfl (Sub.cons rfl (Sub.nil _))))) (MSub.refl _) ?_
    refine W_cond rfl (fun hc10 => ?_) (fun hc10 => ?_)
    · skip
      replace hp := cond_t hc10 hp
      refine W_seq ?_
      refine W_region ?_
      refine L_move rfl rfl ?_
      refine L_move rfl rfl ?_
      have ho := hp; clear hp; obtain ⟨y11, hy11, hp⟩ := bind_any ho; clear ho
      refine L_callM [blk bky1 _ _] _ rfl fn61 rfl (perm_cons (by first | (with_reducible repeat (first | exact Pick.here _ | apply Pick.there)); done | (repeat (first | exact Pick.here _ | apply Pick.there))) (perm_nil_left _)) (by exact fun w hw => s_l1Spoil_walk w bky1 (a0, y9y0_2, y9y0_3) v3_0 ((RdX.old h0) w hw) _ hy11) ?_
      rintro vy11 My11 ⟨y11x0, y11y0, hvy11, hdy11, rfl, hey11_0⟩
      subst hvy11
      subst hdy11
      obtain ⟨y11y0_1, y11y0_2, y11y0_3⟩ := y11y0
      obtain rfl : a0 = y11y0_1 := hey11_0.symm
      simp only [cells_pair, cells_int, cells_bool, cells_str, cells_TL, List.cons_append, List.nil_append]
      try dsimp only [dat_pair, dat_int, dat_bool, dat_str, dat_ar] at hp
      refine L_assign rfl rfl ?_
      refine L_nil ?_
      obtain rfl := Option.some.inj hp
      refine W_ret ?_
      refine res1 rfl (ResOK.tmp rfl) ⟨rfl, rfl⟩ (MSub.nil _)
    · skip
      replace hp := cond_f hc10 hp
      refine W_seq ?_
      refine W_region ?_
      refine L_binV rfl rfl rfl bv_eql ?_
      refine L_assign rfl rfl ?_
      refine L_nil ?_
      refine W_weaken (l' := [(3, _), (4, _), (20, _), (26, _)]) (Sub.cons rfl (Sub.cons rfl (Sub.cons rfl (Sub.cons rfl (Sub.nil _))))) (MSub.refl _) ?_
      refine W_cond rfl (fun hc12 => ?_) (fun hc12 => ?_)
      · skip
        replace hp := cond_t hc12 hp
        refine W_seq ?_
        refine W_region ?_
        refine L_move rfl rfl ?_
        refine L_move rfl rfl ?_
        have ho := hp; clear hp; obtain ⟨y13, hy13, hp⟩ := bind_any ho; clear ho
        refine L_callM [blk bky1 _ _] _ rfl fn60 rfl (perm_cons (by first | (with_reducible repeat (first | exact Pick.here _ | apply Pick.there)); done | (repeat (first | exact Pick.here _ | apply Pick.there))) (perm_nil_left _)) (by exact fun w hw => s_l1Text_walk w bky1 (a0, y9y0_2, y9y0_3) 9 ((RdX.old h0) w hw) _ hy13) ?_
        rintro vy13 My13 ⟨y13x0, y13y0, hvy13, hdy13, rfl, hey13_0⟩
        subst hvy13
        subst hdy13
        obtain ⟨y13y0_1, y13y0_2, y13y0_3⟩ := y13y0
        obtain rfl : a0 = y13y0_1 := hey13_0.symm
        simp only [cells_pair, cells_int, cells_bool, cells_str, cells_TL, List.cons_append, List.nil_append]
        try dsimp only [dat_pair, dat_int, dat_bool, dat_str, dat_ar] at hp
        have ho := hp; clear hp; obtain ⟨y14, hy14, hp⟩ := bind_any ho; clear ho
        refine L_binV rfl rfl rfl (bv_saddP hy14) ?_
        refine L_assign rfl rfl ?_
        refine L_nil ?_
        obtain rfl := Option.some.inj hp
        refine W_ret ?_
        refine res1 rfl (ResOK.tmp rfl) ⟨rfl, rfl⟩ (MSub.nil _)
      · skip
        replace hp := cond_f hc12 hp
        refine W_seq ?_
        refine W_region ?_
        refine L_binV rfl rfl rfl bv_eql ?_
        refine L_assign rfl rfl ?_
        refine L_nil ?_
        refine W_weaken (l' := [(3, _), (4, _), (32, _)]) (Sub.cons rfl (Sub.cons rfl (Sub.cons rfl (Sub.nil _)))) (MSub.refl _) ?_
        refine W_cond rfl (fun hc15 => ?_) (fun hc15 => ?_)
        · skip
          replace hp := cond_t hc15 hp
          refine W_seq ?_
          refine W_region ?_
          refine L_move rfl rfl ?_
          refine L_move rfl rfl ?_
          refine L_move rfl rfl ?_
          refine L_lenT rfl rfl str9 ?_
          refine L_binV rfl rfl rfl bv_add ?_
          have ho := hp; clear hp; obtain ⟨y16, hy16, hp⟩ := bind_any ho; clear ho
          refine L_callM [blk bky1 _ _] _ rfl fn59 rfl (perm_cons (by first | (with_reducible repeat (first | exact Pick.here _ | apply Pick.there)); done | (repeat (first | exact Pick.here _ | apply Pick.there))) (perm_nil_left _)) (by exact fun w hw => s_l1Below_walk w bky1 (a0, y9y0_2, y9y0_3) (IntKind.wrap .i64 ((v3_0.size : Int) + 1)) ((RdX.old h0) w hw) _ hy16) ?_
          rintro vy16 My16 ⟨y16x0, y16y0, hvy16, hdy16, rfl, hey16_0⟩
          subst hvy16
          subst hdy16
          obtain ⟨y16y0_1, y16y0_2, y16y0_3⟩ := y16y0
          obtain rfl : a0 = y16y0_1 := hey16_0.symm
          simp only [cells_pair, cells_int, cells_bool, cells_str, cells_TL, List.cons_append, List.nil_append]
          try dsimp only [dat_pair, dat_int, dat_bool, dat_str, dat_ar] at hp
          have ho := hp; clear hp; obtain ⟨y17, hy17, hp⟩ := bind_any ho; clear ho
          refine L_ssl rfl rfl rfl rfl str9 hy17 ?_
          refine L_assign rfl rfl ?_
          refine L_nil ?_
          obtain rfl := Option.some.inj hp
          refine W_ret ?_
          refine res1 rfl (ResOK.tmp rfl) ⟨rfl, rfl⟩ (MSub.nil _)
        · skip
          replace hp := cond_f hc15 hp
          refine W_skip ?_
          refine W_seq ?_
          refine W_region ?_
          refine L_move rfl rfl ?_
          refine L_assign rfl rfl ?_
          refine L_nil ?_
          obtain rfl := Option.some.inj hp
          refine W_ret ?_
          refine res1 rfl (ResOK.tmp rfl) ⟨rfl, rfl⟩ (MSub.nil _)

noncomputable def i_Var (a0 : Int) : Option ByteArray :=
  Option.bind (i_within a0 0 562949953421311) (fun y1 => cond (!y1) (some ByteArray.empty) (Option.bind (some ([] : List UInt8)) (fun y4 => whileP (fun s5 : Int × (List UInt8) => cond (decide (127 < s5.1)) (Option.bind (u8P (IntKind.wrap .u8 (bits .or .i64 (bits .and .i64 s5.1 127) 128))) (fun y7 => Option.bind (appP s5.2 [y7]) (fun y9 => some (.inl (((s5.1 / 2 ^ (7 : Int).toNat), y9)))))) (Option.map .inr (Option.bind (u8P (IntKind.wrap .u8 s5.1)) (fun y11 => Option.bind (appP s5.2 [y11]) (fun y13 => some (strP y13)))))) (a0, y4))))

theorem i_Var_walk (w : World) (a0 : Int)  (r : ByteArray) (hp : i_Var a0 = some r) : Spec Try.prog 123 [.int .i64 a0].toArray w [] (IsV (.string r)) := by
  refine Spec.intro Try.func123 rfl Try.ntmps123 rfl ?_
  unfold i_Var at hp
  try dsimp only [dat_pair, dat_int, dat_bool, dat_str, dat_ar] at hp
  refine W_seq ?_
  refine W_region ?_
  refine L_assign rfl rfl ?_
  refine L_nil ?_
  refine W_seq ?_
  refine W_seq ?_
  refine W_region ?_
  refine L_move rfl rfl ?_
  have ho := hp; clear hp; obtain ⟨y1, hy1, hp⟩ := bind_any ho; clear ho
  refine L_callX rfl fn73 rfl (by exact fun w hw => i_within_walk w a0 0 562949953421311  _ hy1) ?_
  refine L_not rfl rfl ?_
  refine L_nil ?_
  refine W_weaken (l' := [(0, _), (6, _)]) (Sub.cons rfl (Sub.cons rfl (Sub.nil _))) (MSub.refl _) ?_
  refine W_cond rfl (fun hc2 => ?_) (fun hc2 => ?_)
  · skip
    replace hp := cond_t hc2 hp
    refine W_seq ?_
    refine W_region ?_
    refine L_assign rfl rfl ?_
    refine L_nil ?_
    obtain rfl := Option.some.inj hp
    refine W_ret ?_
    refine res1 rfl (ResOK.tmp rfl) ⟨rfl, rfl⟩ (MSub.nil _)
  · skip
    replace hp := cond_f hc2 hp
    refine W_skip ?_
    refine W_seq ?_
    refine W_region ?_
    have ho := hp; clear hp; obtain ⟨y4, hy4, hp⟩ := bind_any ho; clear ho
    refine L_mk0 UInt8 rfl el22 (fun X3 hdX3 => ?_)
    obtain rfl : GT.dat X3 = y4 := hdX3.trans (Option.some.inj hy4)
    clear hy4 hdX3
    refine L_assign rfl rfl ?_
    refine L_nil ?_
    refine W_seq ?_
    refine W_block ?_
    refine W_while (σ := Int × (TL UInt8)) GT.dat (fun ((v5_0, v5_1) : Int × (TL UInt8)) => [(0, .int .i64 v5_0), (3, (TL.hdr v5_1))]) (fun ((v5_0, v5_1) : Int × (TL UInt8)) => [treeH v5_1]) [] [] (a0, X3) hp (Sub.cons rfl (Sub.cons rfl (Sub.nil _))) (MSub.cons (by first | (with_reducible repeat (first | exact Pick.here _ | apply Pick.there)); done | (repeat (first | exact Pick.here _ | apply Pick.there))) (MSub.nil _)) ?_
    clear hp
    rintro ⟨v5_0, v5_1⟩ x5 hp hx5
    try dsimp only [dat_pair, dat_int, dat_bool, dat_str, dat_ar] at hp
    refine W_weaken (l' := [(0, _), (3, _)]) (Sub.cons rfl (Sub.cons rfl (Sub.nil _))) (M' := [_]) (MSub.cons (by first | (with_reducible repeat (first | exact Pick.here _ | apply Pick.there)); done | (repeat (first | exact Pick.here _ | apply Pick.there))) (MSub.nil _)) ?_
    refine W_seq ?_
    refine W_seq ?_
    refine W_region ?_
    refine L_move rfl rfl ?_
    refine L_binV rfl rfl rfl bv_gtr ?_
    refine L_nil ?_
    refine W_weaken (l' := [(0, _), (3, _), (9, _)]) (Sub.cons rfl (Sub.cons rfl (Sub.cons rfl (Sub.nil _)))) (MSub.refl _) ?_
    refine W_cond rfl (fun hc6 => ?_) (fun hc6 => ?_)
    · skip
      replace hp := cond_t hc6 hp
      refine W_skip ?_
      refine W_block ?_
      refine W_seq ?_
      refine W_region ?_
      refine L_move rfl rfl ?_
      refine L_move rfl rfl ?_
      refine L_binV rfl rfl rfl bv_and ?_
      refine L_binV rfl rfl rfl bv_or ?_
      refine L_convInt rfl rfl und5 (by rw [und3]; rfl) ?_
      have ho := hp; clear hp; obtain ⟨y7, hy7, hp⟩ := bind_any ho; clear ho
      have ey7 := u8P_some hy7
      try simp only [ey7]
      refine L_buildSlice1 rfl rfl el22 rfl (by decide) (by decide) rfl (fun bb15 => ?_)
      have ho := hp; clear hp; obtain ⟨y9, hy9, hp⟩ := bind_any ho; clear ho
      refine L_app1F (X := v5_1) (y7 : UInt8) rfl rfl rfl el22 rfl rfl (by first | (with_reducible repeat (first | exact Pick.here _ | apply Pick.there)); done | (repeat (first | exact Pick.here _ | apply Pick.there))) (by first | (with_reducible repeat (first | exact List.Mem.head _ | apply List.Mem.tail)); done | (repeat (first | exact List.Mem.head _ | apply List.Mem.tail)))  hy9 (by decide) (fun X8 hdX8 => ?_)
      subst hdX8
      refine L_assign rfl rfl ?_
      refine L_nil ?_
      refine W_region ?_
      refine L_move rfl rfl ?_
      refine L_binV rfl rfl rfl (bv_shr (by decide) (by decide)) ?_
      refine L_assign rfl rfl ?_
      refine L_nil ?_
      exact ⟨((v5_0 / 2 ^ (7 : Int).toNat), X8), (Sub.cons rfl (Sub.cons rfl (Sub.nil _))), (Arr.sub (MSub.cons (by first | (with_reducible repeat (first | exact Pick.here _ | apply Pick.there)); done | (repeat (first | exact Pick.here _ | apply Pick.there))) (MSub.nil _))), some_eq hp⟩
    · skip
      replace hp := cond_f hc6 hp
      refine W_exit ?_
      have ho := hp; clear hp; obtain ⟨a10, hp, hx_a10⟩ := map_any ho; clear ho
      obtain rfl := hx5 _ hx_a10
      refine W_seq ?_
      refine W_region ?_
      refine L_move rfl rfl ?_
      refine L_move rfl rfl ?_
      refine L_convInt rfl rfl und5 (by rw [und3]; rfl) ?_
      have ho := hp; clear hp; obtain ⟨y11, hy11, hp⟩ := bind_any ho; clear ho
      have ey11 := u8P_some hy11
      try simp only [ey11]
      refine L_buildSlice1 rfl rfl el22 rfl (by decide) (by decide) rfl (fun bb22 => ?_)
      have ho := hp; clear hp; obtain ⟨y13, hy13, hp⟩ := bind_any ho; clear ho
      refine L_app1F (X := v5_1) (y11 : UInt8) rfl rfl rfl el22 rfl rfl (by first | (with_reducible repeat (first | exact Pick.here _ | apply Pick.there)); done | (repeat (first | exact Pick.here _ | apply Pick.there))) (by first | (with_reducible repeat (first | exact List.Mem.head _ | apply List.Mem.tail)); done | (repeat (first | exact List.Mem.head _ | apply List.Mem.tail)))  hy13 (by decide) (fun X12 hdX12 => ?_)
      subst hdX12
      refine L_toStr (X := X12) rfl rfl und22 und5 und9 (RdT.tree (by first | (with_reducible repeat (first | exact List.Mem.head _ | apply List.Mem.tail)); done | (repeat (first | exact List.Mem.head _ | apply List.Mem.tail)))) ?_
      refine L_assign rfl rfl ?_
      refine L_nil ?_
      obtain rfl := Option.some.inj hp
      refine W_ret ?_
      refine res1 rfl (ResOK.tmp rfl) ⟨rfl, rfl⟩ (MSub.nil _)

noncomputable def i_ReadVar (a0 : ByteArray) : Option (Int × Int) :=
  whileP (fun s1 : Int × Int => cond ((decide (s1.2 < (a0.size : Int))) && (decide (s1.2 < 7))) (Option.bind (sidx a0 s1.2) (fun y3 => Option.bind (shlP .i64 (IntKind.wrap .i64 (bits .and .u8 y3 127)) (IntKind.wrap .i64 (7 * s1.2))) (fun y4 => Option.bind (sidx a0 s1.2) (fun y5 => cond (decide (y5 < 128)) (Option.bind (i_Var (bits .or .i64 s1.1 y4)) (fun y7 => Option.bind (sslP a0 0 (IntKind.wrap .i64 (s1.2 + 1))) (fun y8 => cond (!decide (y7 = y8)) (Option.map .inr (some (0, 0))) (Option.map .inr (some (bits .or .i64 s1.1 y4, IntKind.wrap .i64 (s1.2 + 1))))))) (some (.inl ((bits .or .i64 s1.1 y4, IntKind.wrap .i64 (s1.2 + 1))))))))) (Option.map .inr (some (0, 0)))) (0, 0)

theorem i_ReadVar_walk (w : World) (a0 : ByteArray)  (r : Int × Int) (hp : i_ReadVar a0 = some r) : Spec Try.prog 174 [.string a0].toArray w [] (fun v M => ∃ (x0 : Int) (x1 : Int), v = .tuple #[.int .i64 x0, .int .i64 x1] ∧ (GT.dat x0, GT.dat x1) = r ∧ M = []) := by
  refine Spec.intro Try.func174 rfl Try.ntmps174 rfl ?_
  unfold i_ReadVar at hp
  try dsimp only [dat_pair, dat_int, dat_bool, dat_str, dat_ar] at hp
  refine W_seq ?_
  refine W_region ?_
  refine L_assign rfl rfl ?_
  refine L_assign rfl rfl ?_
  refine L_nil ?_
  refine W_seq ?_
  refine W_region ?_
  refine L_assign rfl rfl ?_
  refine L_nil ?_
  refine W_seq ?_
  refine W_seq ?_
  refine W_region ?_
  refine L_assign rfl rfl ?_
  refine L_nil ?_
  refine W_block ?_
  refine W_while (σ := Int × Int) GT.dat (fun ((v1_0, v1_1) : Int × Int) => [(4, .int .i64 v1_0), (5, .int .i64 v1_1)]) (fun ((v1_0, v1_1) : Int × Int) => []) [(0, _)] [] (0, 0) hp (Sub.cons rfl (Sub.cons rfl (Sub.cons rfl (Sub.nil _)))) (MSub.nil _) ?_
  clear hp
  rintro ⟨v1_0, v1_1⟩ x1 hp hx1
  try dsimp only [dat_pair, dat_int, dat_bool, dat_str, dat_ar] at hp
  refine W_weaken (l' := [(0, _), (4, _), (5, _)]) (Sub.cons rfl (Sub.cons rfl (Sub.cons rfl (Sub.nil _)))) (M' := []) (MSub.nil _) ?_
  refine W_seq ?_
  refine W_seq ?_
  refine W_D0 [13] mix (by kernel_rfl) rfl ?_
  refine D_move GC.none (OpV.t rfl) ?_
  refine D_move GC.none (OpV.t rfl) ?_
  refine D_lenT GC.none (OpV.t rfl) str9 ?_
  refine D_bin GC.none (OpV.t rfl) (OpV.t rfl) (fun hg => bv_lss) ?_
  refine D_move GC.none (OpV.t rfl) ?_
  refine D_move (GC.some rfl rfl) (OpV.t rfl) ?_
  refine D_bin (GC.some rfl rfl) (OpV.s rfl) OpV.c (fun hg => bv_lss) ?_
  refine D_and (cy := _) GC.none (OpV.t rfl) (OpV.s rfl) (fun h hb => ⟨h, hb⟩) ?_
  refine DV_nil ?_
  refine Give_is rfl rfl ?_
  refine Give_drop rfl ?_
  refine Give_drop rfl ?_
  refine Give_drop rfl ?_
  refine Give_drop rfl ?_
  refine Give_drop rfl ?_
  refine Give_drop rfl ?_
  refine Give_drop rfl ?_
  refine Give_nil ?_
  refine W_weaken (l' := [(0, _), (4, _), (5, _), (13, _)]) (Sub.cons rfl (Sub.cons rfl (Sub.cons rfl (Sub.cons rfl (Sub.nil _))))) (MSub.refl _) ?_
  refine W_cond rfl (fun hc2 => ?_) (fun hc2 => ?_)
  · skip
    replace hp := cond_t hc2 hp
    refine W_skip ?_
    refine W_seq ?_
    refine W_block ?_
    refine W_seq ?_
    refine W_region ?_
    refine L_move rfl rfl ?_
    refine L_move rfl rfl ?_
    refine L_move rfl rfl ?_
    have ho := hp; clear hp; obtain ⟨y3, hy3, hp⟩ := bind_any ho; clear ho
    refine L_idxS rfl rfl rfl str9 hy3 ?_
    refine L_binV rfl rfl rfl bv_and ?_
    refine L_convInt rfl rfl und3 (by rw [und5]; rfl) ?_
    refine L_move rfl rfl ?_
    refine L_binV rfl rfl rfl bv_mul ?_
    have ho := hp; clear hp; obtain ⟨y4, hy4, hp⟩ := bind_any ho; clear ho
    refine L_binV rfl rfl rfl (bv_shlP hy4) ?_
    refine L_binV rfl rfl rfl bv_or ?_
    refine L_assign rfl rfl ?_
    refine L_nil ?_
    refine W_seq ?_
    refine W_region ?_
    refine L_move rfl rfl ?_
    refine L_move rfl rfl ?_
    have ho := hp; clear hp; obtain ⟨y5, hy5, hp⟩ := bind_any ho; clear ho
    refine L_idxS rfl rfl rfl str9 hy5 ?_
    refine L_binV rfl rfl rfl bv_lss ?_
    refine L_nil ?_
    refine W_weaken (l' := [(0, _), (4, _), (5, _), (29, _)]) (Sub.cons rfl (Sub.cons rfl (Sub.cons rfl (Sub.cons rfl (Sub.nil _))))) (MSub.refl _) ?_
    refine W_cond rfl (fun hc6 => ?_) (fun hc6 => ?_)
    · skip
      replace hp := cond_t hc6 hp
      refine W_seq ?_
      refine W_seq ?_
      have ho := hp; clear hp; obtain ⟨y7, hy7, hp⟩ := bind_any ho; clear ho
      have ho := hp; clear hp; obtain ⟨y8, hy8, hp⟩ := bind_any ho; clear ho
      refine W_D0 [36] mix (by kernel_rfl) rfl ?_
      refine D_move GC.none (OpV.t rfl) ?_
      refine D_callX GC.none fn123 (OpVs.cons (OpV.t rfl) (OpVs.nil)) (by exact fun hg w F hF hM => i_Var_walk w (bits .or .i64 v1_0 y4)  _ hy7) ?_
      refine D_move GC.none (OpV.t rfl) ?_
      refine D_move GC.none (OpV.t rfl) ?_
      refine D_bin GC.none (OpV.t rfl) OpV.c (fun hg => bv_add) ?_
      refine D_ssl GC.none (OpV.t rfl) optD.none (optD.some (OpV.t rfl)) str9 (fun hg => hy8) ?_
      refine D_bin GC.none (OpV.t rfl) (OpV.t rfl) (fun hg => bv_sneq) ?_
      refine DV_nil ?_
      refine Give_is rfl rfl ?_
      refine Give_drop rfl ?_
      refine Give_drop rfl ?_
      refine Give_drop rfl ?_
      refine Give_drop rfl ?_
      refine Give_drop rfl ?_
      refine Give_drop rfl ?_
      refine Give_nil ?_
      refine W_weaken (l' := [(4, _), (5, _), (36, _)]) (Sub.cons rfl (Sub.cons rfl (Sub.cons rfl (Sub.nil _)))) (MSub.refl _) ?_
      refine W_cond rfl (fun hc9 => ?_) (fun hc9 => ?_)
      · skip
        replace hp := cond_t hc9 hp
        refine W_seq ?_
        refine W_region ?_
        refine L_assign rfl rfl ?_
        refine L_assign rfl rfl ?_
        refine L_nil ?_
        have ho := hp; clear hp; obtain ⟨a10, hp, hx_a10⟩ := map_any ho; clear ho
        obtain rfl := hx1 _ hx_a10
        obtain rfl := Option.some.inj hp
        refine W_ret ?_
        refine res2 rfl (ResOK.tmp rfl) (ResOK.tmp rfl) ⟨0, 0, rfl, rfl, rfl⟩ (MSub.nil _)
      · skip
        replace hp := cond_f hc9 hp
        refine W_skip ?_
        refine W_seq ?_
        refine W_region ?_
        refine L_move rfl rfl ?_
        refine L_move rfl rfl ?_
        refine L_binV rfl rfl rfl bv_add ?_
        refine L_assign rfl rfl ?_
        refine L_assign rfl rfl ?_
        refine L_nil ?_
        have ho := hp; clear hp; obtain ⟨a11, hp, hx_a11⟩ := map_any ho; clear ho
        obtain rfl := hx1 _ hx_a11
        obtain rfl := Option.some.inj hp
        refine W_ret ?_
        refine res2 rfl (ResOK.tmp rfl) (ResOK.tmp rfl) ⟨bits .or .i64 v1_0 y4, IntKind.wrap .i64 (v1_1 + 1), rfl, rfl, rfl⟩ (MSub.nil _)
    · skip
      replace hp := cond_f hc6 hp
      refine W_skip ?_
      refine W_region ?_
      refine L_move rfl rfl ?_
      refine L_binV rfl rfl rfl bv_add ?_
      refine L_assign rfl rfl ?_
      refine L_nil ?_
      exact ⟨(bits .or .i64 v1_0 y4, IntKind.wrap .i64 (v1_1 + 1)), (Sub.cons rfl (Sub.cons rfl (Sub.cons rfl (Sub.nil _)))), (Arr.sub (MSub.nil _)), some_eq hp⟩
  · skip
    replace hp := cond_f hc2 hp
    refine W_exit ?_
    have ho := hp; clear hp; obtain ⟨a12, hp, hx_a12⟩ := map_any ho; clear ho
    obtain rfl := hx1 _ hx_a12
    refine W_seq ?_
    refine W_region ?_
    refine L_assign rfl rfl ?_
    refine L_assign rfl rfl ?_
    refine L_nil ?_
    obtain rfl := Option.some.inj hp
    refine W_ret ?_
    refine res2 rfl (ResOK.tmp rfl) (ResOK.tmp rfl) ⟨0, 0, rfl, rfl, rfl⟩ (MSub.nil _)

noncomputable def i_scan_num (a0 : D_scan) : Option (Int × D_scan) :=
  Option.bind (i_ReadVar a0.1) (fun y1 => cond (a0.2 || (decide (y1.2 = 0))) (some (0, (a0.1, true))) (Option.bind (sslP a0.1 y1.2 (a0.1.size : Int)) (fun y3 => some (y1.1, (y3, a0.2)))))

theorem i_scan_num_walk (w : World) (b0_ : Nat) (a0 : T_scan)  (r : Int × D_scan) (hp : i_scan_num (GT.dat a0) = some r) : Spec Try.prog 158 [Value.pointer (some ⟨b0_, 0, none⟩)].toArray w [blk b0_ (GT.cells a0) 148] (fun v M => ∃ (x0 : Int) (y0 : T_scan), v = .int .i64 x0 ∧ (GT.dat x0, GT.dat y0) = r ∧ M = [blk b0_ (GT.cells y0) 148]) := by
  obtain ⟨a0_1, a0_2⟩ := a0
  change Spec _ _ ([Value.pointer (some ⟨b0_, 0, none⟩)] : List Value).toArray w _ _
  refine Spec.intro Try.func158 rfl Try.ntmps158 rfl ?_
  unfold i_scan_num at hp
  try dsimp only [dat_pair, dat_int, dat_bool, dat_str, dat_ar] at hp
  refine W_seq ?_
  refine W_region ?_
  refine L_assign rfl rfl ?_
  refine L_nil ?_
  refine W_seq ?_
  refine W_region ?_
  refine L_move rfl rfl ?_
  refine L_nilCheck rfl rfl ?_
  refine L_fieldAddr rfl rfl fld148_0 ?_
  refine L_load rfl rfl (RdC.blk (by first | (with_reducible repeat (first | exact List.Mem.head _ | apply List.Mem.tail)); done | (repeat (first | exact List.Mem.head _ | apply List.Mem.tail)))) one9 rfl ?_
  have ho := hp; clear hp; obtain ⟨y1, hy1, hp⟩ := bind_any ho; clear ho
  refine L_callR rfl fn174 rfl (by exact fun w hw => i_ReadVar_walk w a0_1  _ hy1) ?_
  rintro vy1 My1 ⟨y1x0, y1x1, hvy1, hdy1, rfl⟩
  subst hvy1
  subst hdy1
  simp only [cells_pair, cells_int, cells_bool, cells_str, cells_TL, List.cons_append, List.nil_append]
  try dsimp only [dat_pair, dat_int, dat_bool, dat_str, dat_ar] at hp
  refine L_move rfl rfl ?_
  refine L_extract rfl rfl rfl ?_
  refine L_extract rfl rfl rfl ?_
  refine L_assign rfl rfl ?_
  refine L_assign rfl rfl ?_
  refine L_nil ?_
  refine W_seq ?_
  refine W_seq ?_
  refine W_D0 [20] mix (by kernel_rfl) rfl ?_
  refine D_move GC.none (OpV.t rfl) ?_
  refine D_nilCheck GC.none (OpV.t rfl) ?_
  refine D_fieldAddr GC.none (OpV.t rfl) fld148_1 ?_
  refine D_load GC.none (OpV.t rfl) (fun hg => RdC.blk (by first | (with_reducible repeat (first | exact List.Mem.head _ | apply List.Mem.tail)); done | (repeat (first | exact List.Mem.head _ | apply List.Mem.tail)))) one4 rfl ?_
  refine D_move GC.none (OpV.t rfl) ?_
  refine D_move (GC.some rfl rfl) (OpV.t rfl) ?_
  refine D_bin (GC.some rfl rfl) (OpV.s rfl) OpV.c (fun hg => bv_eql) ?_
  refine D_or (cy := _) GC.none (OpV.t rfl) (OpV.s rfl) (fun h hb => ⟨h, hb⟩) ?_
  refine DV_nil ?_
  refine Give_is rfl rfl ?_
  refine Give_drop rfl ?_
  refine Give_drop rfl ?_
  refine Give_drop rfl ?_
  refine Give_drop rfl ?_
  refine Give_drop rfl ?_
  refine Give_drop rfl ?_
  refine Give_drop rfl ?_
  refine Give_nil ?_
  refine W_weaken (l' := [(0, _), (3, _), (4, _), (20, _)]) (Sub.cons rfl (Sub.cons rfl (Sub.cons rfl (Sub.cons rfl (Sub.nil _))))) (MSub.refl _) ?_
  refine W_cond rfl (fun hc2 => ?_) (fun hc2 => ?_)
  · skip
    replace hp := cond_t hc2 hp
    refine W_seq ?_
    refine W_region ?_
    refine L_move rfl rfl ?_
    refine L_nilCheck rfl rfl ?_
    refine L_fieldAddr rfl rfl fld148_1 ?_
    refine L_store rfl rfl (by first | (with_reducible repeat (first | exact Pick.here _ | apply Pick.there)); done | (repeat (first | exact Pick.here _ | apply Pick.there))) one4 rfl rfl ?_
    refine L_nil ?_
    refine W_seq ?_
    refine W_region ?_
    refine L_assign rfl rfl ?_
    refine L_nil ?_
    obtain rfl := Option.some.inj hp
    refine W_ret ?_
    refine res1 rfl (ResOK.tmp rfl) ⟨0, (a0_1, true), rfl, rfl, rfl⟩ (MSub.cons (by first | (with_reducible repeat (first | exact Pick.here _ | apply Pick.there)); done | (repeat (first | exact Pick.here _ | apply Pick.there))) (MSub.nil _))
  · skip
    replace hp := cond_f hc2 hp
    refine W_skip ?_
    refine W_seq ?_
    refine W_region ?_
    refine L_move rfl rfl ?_
    refine L_move rfl rfl ?_
    refine L_nilCheck rfl rfl ?_
    refine L_fieldAddr rfl rfl fld148_0 ?_
    refine L_load rfl rfl (RdC.blk (by first | (with_reducible repeat (first | exact List.Mem.head _ | apply List.Mem.tail)); done | (repeat (first | exact List.Mem.head _ | apply List.Mem.tail)))) one9 rfl ?_
    refine L_move rfl rfl ?_
    have ho := hp; clear hp; obtain ⟨y3, hy3, hp⟩ := bind_any ho; clear ho
    refine L_ssl rfl rfl rfl rfl str9 hy3 ?_
    refine L_nilCheck rfl rfl ?_
    refine L_fieldAddr rfl rfl fld148_0 ?_
    refine L_store rfl rfl (by first | (with_reducible repeat (first | exact Pick.here _ | apply Pick.there)); done | (repeat (first | exact Pick.here _ | apply Pick.there))) one9 rfl rfl ?_
    refine L_nil ?_
    refine W_seq ?_
    refine W_region ?_
    refine L_move rfl rfl ?_
    refine L_assign rfl rfl ?_
    refine L_nil ?_
    obtain rfl := Option.some.inj hp
    refine W_ret ?_
    refine res1 rfl (ResOK.tmp rfl) ⟨y1x0, (y3, a0_2), rfl, rfl, rfl⟩ (MSub.cons (by first | (with_reducible repeat (first | exact Pick.here _ | apply Pick.there)); done | (repeat (first | exact Pick.here _ | apply Pick.there))) (MSub.nil _))

noncomputable def i_scan_cut (a0 : D_scan) (a1 : Int) : Option (ByteArray × D_scan) :=
  gb (!a0.2) (i_within a1 0 (a0.1.size : Int)) (fun y1 => cond (a0.2 || (!y1)) (some (ByteArray.empty, (a0.1, true))) (Option.bind (sslP a0.1 0 a1) (fun y3 => Option.bind (sslP a0.1 a1 (a0.1.size : Int)) (fun y4 => some (y3, (y4, a0.2))))))

theorem i_scan_cut_walk (w : World) (b0_ : Nat) (a0 : T_scan) (a1 : Int)  (r : ByteArray × D_scan) (hp : i_scan_cut (GT.dat a0) a1 = some r) : Spec Try.prog 159 [Value.pointer (some ⟨b0_, 0, none⟩), .int .i64 a1].toArray w [blk b0_ (GT.cells a0) 148] (fun v M => ∃ (x0 : ByteArray) (y0 : T_scan), v = .string x0 ∧ (GT.dat x0, GT.dat y0) = r ∧ M = [blk b0_ (GT.cells y0) 148]) := by
  obtain ⟨a0_1, a0_2⟩ := a0
  change Spec _ _ ([Value.pointer (some ⟨b0_, 0, none⟩), .int .i64 a1] : List Value).toArray w _ _
  refine Spec.intro Try.func159 rfl Try.ntmps159 rfl ?_
  unfold i_scan_cut at hp
  try dsimp only [dat_pair, dat_int, dat_bool, dat_str, dat_ar] at hp
  refine W_seq ?_
  refine W_region ?_
  refine L_assign rfl rfl ?_
  refine L_nil ?_
  refine W_seq ?_
  refine W_seq ?_
  have ho := hp; clear hp; obtain ⟨y1, hy1, hp⟩ := gb_any ho; clear ho
  refine W_D0 [19] mix (by kernel_rfl) rfl ?_
  refine D_move GC.none (OpV.t rfl) ?_
  refine D_nilCheck GC.none (OpV.t rfl) ?_
  refine D_fieldAddr GC.none (OpV.t rfl) fld148_1 ?_
  refine D_load GC.none (OpV.t rfl) (fun hg => RdC.blk (by first | (with_reducible repeat (first | exact List.Mem.head _ | apply List.Mem.tail)); done | (repeat (first | exact List.Mem.head _ | apply List.Mem.tail)))) one4 rfl ?_
  refine D_move GC.none (OpV.t rfl) ?_
  refine D_move (GC.some rfl rfl) (OpV.t rfl) ?_
  refine D_move (GC.some rfl rfl) (OpV.t rfl) ?_
  refine D_nilCheck (GC.some rfl rfl) (OpV.s rfl) ?_
  refine D_fieldAddr (GC.some rfl rfl) (OpV.s rfl) fld148_0 ?_
  refine D_load (GC.some rfl rfl) (OpV.s rfl) (fun hg => RdC.blk (by first | (with_reducible repeat (first | exact List.Mem.head _ | apply List.Mem.tail)); done | (repeat (first | exact List.Mem.head _ | apply List.Mem.tail)))) one9 rfl ?_
  refine D_lenT (GC.some rfl rfl) (OpV.s rfl) str9 ?_
  refine D_callX (GC.some rfl rfl) fn73 (OpVs.cons (OpV.s rfl) (OpVs.cons OpV.c (OpVs.cons (OpV.s rfl) (OpVs.nil)))) (by exact fun hg w F hF hM => i_within_walk w a1 0 (a0_1.size : Int)  _ (hy1 (gnot hg.2))) ?_
  refine D_not (GC.some rfl rfl) (OpV.s rfl) ?_
  refine D_or (cy := _) GC.none (OpV.t rfl) (OpV.s rfl) (fun h hb => ⟨h, hb⟩) ?_
  refine DV_nil ?_
  refine Give_is rfl rfl ?_
  refine Give_drop rfl ?_
  refine Give_drop rfl ?_
  refine Give_drop rfl ?_
  refine Give_drop rfl ?_
  refine Give_drop rfl ?_
  refine Give_drop rfl ?_
  refine Give_drop rfl ?_
  refine Give_drop rfl ?_
  refine Give_drop rfl ?_
  refine Give_drop rfl ?_
  refine Give_drop rfl ?_
  refine Give_drop rfl ?_
  refine Give_drop rfl ?_
  refine Give_nil ?_
  refine W_weaken (l' := [(0, _), (1, _), (19, _)]) (Sub.cons rfl (Sub.cons rfl (Sub.cons rfl (Sub.nil _)))) (MSub.refl _) ?_
  refine W_cond rfl (fun hc2 => ?_) (fun hc2 => ?_)
  · skip
    replace hp := cond_t hc2 hp
    refine W_seq ?_
    refine W_region ?_
    refine L_move rfl rfl ?_
    refine L_nilCheck rfl rfl ?_
    refine L_fieldAddr rfl rfl fld148_1 ?_
    refine L_store rfl rfl (by first | (with_reducible repeat (first | exact Pick.here _ | apply Pick.there)); done | (repeat (first | exact Pick.here _ | apply Pick.there))) one4 rfl rfl ?_
    refine L_nil ?_
    refine W_seq ?_
    refine W_region ?_
    refine L_assign rfl rfl ?_
    refine L_nil ?_
    obtain rfl := Option.some.inj hp
    refine W_ret ?_
    refine res1 rfl (ResOK.tmp rfl) ⟨ByteArray.empty, (a0_1, true), rfl, rfl, rfl⟩ (MSub.cons (by first | (with_reducible repeat (first | exact Pick.here _ | apply Pick.there)); done | (repeat (first | exact Pick.here _ | apply Pick.there))) (MSub.nil _))
  · skip
    replace hp := cond_f hc2 hp
    refine W_skip ?_
    refine W_seq ?_
    refine W_region ?_
    refine L_move rfl rfl ?_
    refine L_nilCheck rfl rfl ?_
    refine L_fieldAddr rfl rfl fld148_0 ?_
    refine L_load rfl rfl (RdC.blk (by first | (with_reducible repeat (first | exact List.Mem.head _ | apply List.Mem.tail)); done | (repeat (first | exact List.Mem.head _ | apply List.Mem.tail)))) one9 rfl ?_
    refine L_move rfl rfl ?_
    have ho := hp; clear hp; obtain ⟨y3, hy3, hp⟩ := bind_any ho; clear ho
    refine L_ssl rfl rfl rfl rfl str9 hy3 ?_
    refine L_assign rfl rfl ?_
    refine L_nil ?_
    refine W_seq ?_
    refine W_region ?_
    refine L_move rfl rfl ?_
    refine L_move rfl rfl ?_
    refine L_nilCheck rfl rfl ?_
    refine L_fieldAddr rfl rfl fld148_0 ?_
    refine L_load rfl rfl (RdC.blk (by first | (with_reducible repeat (first | exact List.Mem.head _ | apply List.Mem.tail)); done | (repeat (first | exact List.Mem.head _ | apply List.Mem.tail)))) one9 rfl ?_
    refine L_move rfl rfl ?_
    have ho := hp; clear hp; obtain ⟨y4, hy4, hp⟩ := bind_any ho; clear ho
    refine L_ssl rfl rfl rfl rfl str9 hy4 ?_
    refine L_nilCheck rfl rfl ?_
    refine L_fieldAddr rfl rfl fld148_0 ?_
    refine L_store rfl rfl (by first | (with_reducible repeat (first | exact Pick.here _ | apply Pick.there)); done | (repeat (first | exact Pick.here _ | apply Pick.there))) one9 rfl rfl ?_
    refine L_nil ?_
    refine W_seq ?_
    refine W_region ?_
    refine L_move rfl rfl ?_
    refine L_assign rfl rfl ?_
    refine L_nil ?_
    obtain rfl := Option.some.inj hp
    refine W_ret ?_
    refine res1 rfl (ResOK.tmp rfl) ⟨y3, (y4, a0_2), rfl, rfl, rfl⟩ (MSub.cons (by first | (with_reducible repeat (first | exact Pick.here _ | apply Pick.there)); done | (repeat (first | exact Pick.here _ | apply Pick.there))) (MSub.nil _))

noncomputable def i_scan_text (a0 : D_scan) : Option (ByteArray × D_scan) :=
  Option.bind (i_scan_num (a0.1, a0.2)) (fun y1 => Option.bind (i_scan_cut (y1.2.1, y1.2.2) y1.1) (fun y2 => some (y2.1, (y2.2.1, y2.2.2))))

theorem i_scan_text_walk (w : World) (b0_ : Nat) (a0 : T_scan)  (r : ByteArray × D_scan) (hp : i_scan_text (GT.dat a0) = some r) : Spec Try.prog 121 [Value.pointer (some ⟨b0_, 0, none⟩)].toArray w [blk b0_ (GT.cells a0) 148] (fun v M => ∃ (x0 : ByteArray) (y0 : T_scan), v = .string x0 ∧ (GT.dat x0, GT.dat y0) = r ∧ M = [blk b0_ (GT.cells y0) 148]) := by
  obtain ⟨a0_1, a0_2⟩ := a0
  change Spec _ _ ([Value.pointer (some ⟨b0_, 0, none⟩)] : List Value).toArray w _ _
  refine Spec.intro Try.func121 rfl Try.ntmps121 rfl ?_
  unfold i_scan_text at hp
  try dsimp only [dat_pair, dat_int, dat_bool, dat_str, dat_ar] at hp
  refine W_seq ?_
  refine W_region ?_
  refine L_assign rfl rfl ?_
  refine L_nil ?_
  refine W_seq ?_
  refine W_region ?_
  refine L_move rfl rfl ?_
  have ho := hp; clear hp; obtain ⟨y1, hy1, hp⟩ := bind_any ho; clear ho
  refine L_callM [blk b0_ _ _] _ rfl fn158 rfl (perm_cons (by first | (with_reducible repeat (first | exact Pick.here _ | apply Pick.there)); done | (repeat (first | exact Pick.here _ | apply Pick.there))) (perm_nil_left _)) (by exact fun w hw => i_scan_num_walk w b0_ (a0_1, a0_2)  _ hy1) ?_
  rintro vy1 My1 ⟨y1x0, y1y0, hvy1, hdy1, rfl⟩
  subst hvy1
  subst hdy1
  obtain ⟨y1y0_1, y1y0_2⟩ := y1y0
  simp only [cells_pair, cells_int, cells_bool, cells_str, cells_TL, List.cons_append, List.nil_append]
  try dsimp only [dat_pair, dat_int, dat_bool, dat_str, dat_ar] at hp
  refine L_assign rfl rfl ?_
  refine L_nil ?_
  refine W_seq ?_
  refine W_region ?_
  refine L_move rfl rfl ?_
  refine L_move rfl rfl ?_
  have ho := hp; clear hp; obtain ⟨y2, hy2, hp⟩ := bind_any ho; clear ho
  refine L_callM [blk b0_ _ _] _ rfl fn159 rfl (perm_cons (by first | (with_reducible repeat (first | exact Pick.here _ | apply Pick.there)); done | (repeat (first | exact Pick.here _ | apply Pick.there))) (perm_nil_left _)) (by exact fun w hw => i_scan_cut_walk w b0_ (y1y0_1, y1y0_2) y1x0  _ hy2) ?_
  rintro vy2 My2 ⟨y2x0, y2y0, hvy2, hdy2, rfl⟩
  subst hvy2
  subst hdy2
  obtain ⟨y2y0_1, y2y0_2⟩ := y2y0
  simp only [cells_pair, cells_int, cells_bool, cells_str, cells_TL, List.cons_append, List.nil_append]
  try dsimp only [dat_pair, dat_int, dat_bool, dat_str, dat_ar] at hp
  refine L_assign rfl rfl ?_
  refine L_nil ?_
  obtain rfl := Option.some.inj hp
  refine W_ret ?_
  refine res1 rfl (ResOK.tmp rfl) ⟨y2x0, (y2y0_1, y2y0_2), rfl, rfl, rfl⟩ (MSub.cons (by first | (with_reducible repeat (first | exact Pick.here _ | apply Pick.there)); done | (repeat (first | exact Pick.here _ | apply Pick.there))) (MSub.nil _))

noncomputable def i_sized (a0 : ByteArray) : Option ByteArray :=
  Option.bind (i_Var (a0.size : Int)) (fun y1 => Option.bind (catP y1 a0) (fun y2 => some y2))

theorem i_sized_walk (w : World) (a0 : ByteArray)  (r : ByteArray) (hp : i_sized a0 = some r) : Spec Try.prog 66 [.string a0].toArray w [] (IsV (.string r)) := by
  refine Spec.intro Try.func66 rfl Try.ntmps66 rfl ?_
  unfold i_sized at hp
  try dsimp only [dat_pair, dat_int, dat_bool, dat_str, dat_ar] at hp
  refine W_seq ?_
  refine W_region ?_
  refine L_assign rfl rfl ?_
  refine L_nil ?_
  refine W_seq ?_
  refine W_region ?_
  refine L_move rfl rfl ?_
  refine L_lenT rfl rfl str9 ?_
  have ho := hp; clear hp; obtain ⟨y1, hy1, hp⟩ := bind_any ho; clear ho
  refine L_callX rfl fn123 rfl (by exact fun w hw => i_Var_walk w (a0.size : Int)  _ hy1) ?_
  refine L_move rfl rfl ?_
  have ho := hp; clear hp; obtain ⟨y2, hy2, hp⟩ := bind_any ho; clear ho
  refine L_binV rfl rfl rfl (bv_saddP hy2) ?_
  refine L_assign rfl rfl ?_
  refine L_nil ?_
  obtain rfl := Option.some.inj hp
  refine W_ret ?_
  refine res1 rfl (ResOK.tmp rfl) ⟨rfl, rfl⟩ (MSub.nil _)

noncomputable def i_Crc (a0 : ByteArray) : Option Int :=
  whileP (fun s1 : Int × Int => cond (decide (s1.2 < (a0.size : Int))) (Option.bind (sidx a0 s1.2) (fun y3 => whileP (fun s4 : Int × Int => cond (decide (s4.2 < 8)) (cond (decide (bits .and .i64 s4.1 1 = 1)) (some (.inl ((bits .xor .i64 (s4.1 / 2 ^ (1 : Int).toNat) 2197175160, IntKind.wrap .i64 (s4.2 + 1))))) (some (.inl (((s4.1 / 2 ^ (1 : Int).toNat), IntKind.wrap .i64 (s4.2 + 1)))))) (Option.map .inr (some (.inl ((s4.1, IntKind.wrap .i64 (s1.2 + 1))))))) (bits .xor .i64 s1.1 (IntKind.wrap .i64 y3), 0))) (Option.map .inr (some (IntKind.wrap .i64 (4294967295 - s1.1))))) (4294967295, 0)

theorem i_Crc_walk (w : World) (a0 : ByteArray)  (r : Int) (hp : i_Crc a0 = some r) : Spec Try.prog 65 [.string a0].toArray w [] (IsV (.int .i64 r)) := by
  refine Spec.intro Try.func65 rfl Try.ntmps65 rfl ?_
  unfold i_Crc at hp
  try dsimp only [dat_pair, dat_int, dat_bool, dat_str, dat_ar] at hp
  refine W_seq ?_
  refine W_region ?_
  refine L_assign rfl rfl ?_
  refine L_nil ?_
  refine W_seq ?_
  refine W_region ?_
  refine L_assign rfl rfl ?_
  refine L_nil ?_
  refine W_seq ?_
  refine W_seq ?_
  refine W_region ?_
  refine L_assign rfl rfl ?_
  refine L_nil ?_
  refine W_block ?_
  refine W_while (σ := Int × Int) GT.dat (fun ((v1_0, v1_1) : Int × Int) => [(3, .int .i64 v1_0), (4, .int .i64 v1_1)]) (fun ((v1_0, v1_1) : Int × Int) => []) [(0, _)] [] (4294967295, 0) hp (Sub.cons rfl (Sub.cons rfl (Sub.cons rfl (Sub.nil _)))) (MSub.nil _) ?_
  clear hp
  rintro ⟨v1_0, v1_1⟩ x1 hp hx1
  try dsimp only [dat_pair, dat_int, dat_bool, dat_str, dat_ar] at hp
  refine W_weaken (l' := [(0, _), (3, _), (4, _)]) (Sub.cons rfl (Sub.cons rfl (Sub.cons rfl (Sub.nil _)))) (M' := []) (MSub.nil _) ?_
  refine W_seq ?_
  refine W_seq ?_
  refine W_region ?_
  refine L_move rfl rfl ?_
  refine L_move rfl rfl ?_
  refine L_lenT rfl rfl str9 ?_
  refine L_binV rfl rfl rfl bv_lss ?_
  refine L_nil ?_
  refine W_weaken (l' := [(0, _), (3, _), (4, _), (9, _)]) (Sub.cons rfl (Sub.cons rfl (Sub.cons rfl (Sub.cons rfl (Sub.nil _))))) (MSub.refl _) ?_
  refine W_cond rfl (fun hc2 => ?_) (fun hc2 => ?_)
  · skip
    replace hp := cond_t hc2 hp
    refine W_skip ?_
    refine W_seq ?_
    refine W_block ?_
    refine W_seq ?_
    refine W_region ?_
    refine L_move rfl rfl ?_
    refine L_move rfl rfl ?_
    refine L_move rfl rfl ?_
    have ho := hp; clear hp; obtain ⟨y3, hy3, hp⟩ := bind_any ho; clear ho
    refine L_idxS rfl rfl rfl str9 hy3 ?_
    refine L_convInt rfl rfl und3 (by rw [und5]; rfl) ?_
    refine L_binV rfl rfl rfl bv_xor ?_
    refine L_assign rfl rfl ?_
    refine L_nil ?_
    refine W_seq ?_
    refine W_region ?_
    refine L_move rfl rfl ?_
    refine L_nil ?_
    refine W_block ?_
    refine W_while (σ := Int × Int) GT.dat (fun ((v4_0, v4_1) : Int × Int) => [(3, .int .i64 v4_0), (18, .int .i64 v4_1)]) (fun ((v4_0, v4_1) : Int × Int) => []) [(0, _), (4, _)] [] (bits .xor .i64 v1_0 (IntKind.wrap .i64 y3), 0) hp (Sub.cons rfl (Sub.cons rfl (Sub.cons rfl (Sub.cons rfl (Sub.nil _))))) (MSub.nil _) ?_
    clear hp
    rintro ⟨v4_0, v4_1⟩ x4 hp hx4
    try dsimp only [dat_pair, dat_int, dat_bool, dat_str, dat_ar] at hp
    refine W_weaken (l' := [(0, _), (3, _), (4, _), (18, _)]) (Sub.cons rfl (Sub.cons rfl (Sub.cons rfl (Sub.cons rfl (Sub.nil _))))) (M' := []) (MSub.nil _) ?_
    refine W_seq ?_
    refine W_region ?_
    refine L_binV rfl rfl rfl bv_lss ?_
    refine L_nil ?_
    refine W_seq ?_
    refine W_weaken (l' := [(0, _), (3, _), (4, _), (18, _), (19, _)]) (Sub.cons rfl (Sub.cons rfl (Sub.cons rfl (Sub.cons rfl (Sub.cons rfl (Sub.nil _)))))) (MSub.refl _) ?_
    refine W_cond rfl (fun hc5 => ?_) (fun hc5 => ?_)
    · skip
      replace hp := cond_t hc5 hp
      refine W_skip ?_
      refine W_seq ?_
      refine W_block ?_
      refine W_seq ?_
      refine W_region ?_
      refine L_move rfl rfl ?_
      refine L_binV rfl rfl rfl bv_and ?_
      refine L_assign rfl rfl ?_
      refine L_nil ?_
      refine W_seq ?_
      refine W_region ?_
      refine L_move rfl rfl ?_
      refine L_binV rfl rfl rfl (bv_shr (by decide) (by decide)) ?_
      refine L_assign rfl rfl ?_
      refine L_nil ?_
      refine W_seq ?_
      refine W_region ?_
      refine L_move rfl rfl ?_
      refine L_binV rfl rfl rfl bv_eql ?_
      refine L_nil ?_
      refine W_weaken (l' := [(0, _), (3, _), (4, _), (18, _), (25, _)]) (Sub.cons rfl (Sub.cons rfl (Sub.cons rfl (Sub.cons rfl (Sub.cons rfl (Sub.nil _)))))) (MSub.refl _) ?_
      refine W_cond rfl (fun hc6 => ?_) (fun hc6 => ?_)
      · skip
        replace hp := cond_t hc6 hp
        refine W_region ?_
        refine L_move rfl rfl ?_
        refine L_binV rfl rfl rfl bv_xor ?_
        refine L_assign rfl rfl ?_
        refine L_nil ?_
        refine W_region ?_
        refine L_binV rfl rfl rfl bv_add ?_
        refine L_move rfl rfl ?_
        refine L_nil ?_
        exact ⟨(bits .xor .i64 (v4_0 / 2 ^ (1 : Int).toNat) 2197175160, IntKind.wrap .i64 (v4_1 + 1)), (Sub.cons rfl (Sub.cons rfl (Sub.cons rfl (Sub.cons rfl (Sub.nil _))))), (Arr.sub (MSub.nil _)), some_eq hp⟩
      · skip
        replace hp := cond_f hc6 hp
        refine W_skip ?_
        refine W_region ?_
        refine L_binV rfl rfl rfl bv_add ?_
        refine L_move rfl rfl ?_
        refine L_nil ?_
        exact ⟨((v4_0 / 2 ^ (1 : Int).toNat), IntKind.wrap .i64 (v4_1 + 1)), (Sub.cons rfl (Sub.cons rfl (Sub.cons rfl (Sub.cons rfl (Sub.nil _))))), (Arr.sub (MSub.nil _)), some_eq hp⟩
    · skip
      replace hp := cond_f hc5 hp
      refine W_exit ?_
      have ho := hp; clear hp; obtain ⟨a7, hp, hx_a7⟩ := map_any ho; clear ho
      obtain rfl := hx4 _ hx_a7
      refine W_region ?_
      refine L_move rfl rfl ?_
      refine L_binV rfl rfl rfl bv_add ?_
      refine L_assign rfl rfl ?_
      refine L_nil ?_
      exact ⟨(v4_0, IntKind.wrap .i64 (v1_1 + 1)), (Sub.cons rfl (Sub.cons rfl (Sub.cons rfl (Sub.nil _)))), (Arr.sub (MSub.nil _)), some_eq hp⟩
  · skip
    replace hp := cond_f hc2 hp
    refine W_exit ?_
    have ho := hp; clear hp; obtain ⟨a8, hp, hx_a8⟩ := map_any ho; clear ho
    obtain rfl := hx1 _ hx_a8
    refine W_seq ?_
    refine W_region ?_
    refine L_move rfl rfl ?_
    refine L_binV rfl rfl rfl bv_sub ?_
    refine L_assign rfl rfl ?_
    refine L_nil ?_
    obtain rfl := Option.some.inj hp
    refine W_ret ?_
    refine res1 rfl (ResOK.tmp rfl) ⟨rfl, rfl⟩ (MSub.nil _)

noncomputable def i_Fixed (a0 : Int) (a1 : Int) : Option ByteArray :=
  Option.bind (i_within a1 1 7) (fun y1 => gb (!((!y1) || (decide (a0 < 0)))) (shlP .i64 1 (IntKind.wrap .i64 (8 * a1))) (fun y2 => cond (((!y1) || (decide (a0 < 0))) || (decide (y2 ≤ a0))) (some ByteArray.empty) (Option.bind (mkP 1 a1 (0 : UInt8)) (fun y4 => whileP (fun s6 : Int × (List UInt8) × Int => cond (decide (0 ≤ s6.2.2)) (Option.bind (idx s6.2.1 s6.2.2) (fun y8 => Option.bind (u8P (IntKind.wrap .u8 (bits .and .i64 s6.1 255))) (fun y9 => Option.bind (some (s6.2.1.set (s6.2.2.toNat) y9)) (fun y10 => some (.inl (((s6.1 / 2 ^ (8 : Int).toNat), y10, IntKind.wrap .i64 (s6.2.2 - 1)))))))) (Option.map .inr (some (strP s6.2.1)))) (a0, y4, IntKind.wrap .i64 (a1 - 1))))))

theorem i_Fixed_walk (w : World) (a0 : Int) (a1 : Int)  (r : ByteArray) (hp : i_Fixed a0 a1 = some r) : Spec Try.prog 64 [.int .i64 a0, .int .i64 a1].toArray w [] (IsV (.string r)) := by
  refine Spec.intro Try.func64 rfl Try.ntmps64 rfl ?_
  unfold i_Fixed at hp
  try dsimp only [dat_pair, dat_int, dat_bool, dat_str, dat_ar] at hp
  refine W_seq ?_
  refine W_region ?_
  refine L_assign rfl rfl ?_
  refine L_nil ?_
  refine W_seq ?_
  refine W_seq ?_
  have ho := hp; clear hp; obtain ⟨y1, hy1, hp⟩ := bind_any ho; clear ho
  have ho := hp; clear hp; obtain ⟨y2, hy2, hp⟩ := gb_any ho; clear ho
  refine W_D0 [20] mix (by kernel_rfl) rfl ?_
  refine D_move GC.none (OpV.t rfl) ?_
  refine D_callX GC.none fn73 (OpVs.cons (OpV.t rfl) (OpVs.cons OpV.c (OpVs.cons OpV.c (OpVs.nil)))) (by exact fun hg w F hF hM => i_within_walk w a1 1 7  _ hy1) ?_
  refine D_not GC.none (OpV.t rfl) ?_
  refine D_move GC.none (OpV.t rfl) ?_
  refine D_move (GC.some rfl rfl) (OpV.t rfl) ?_
  refine D_bin (GC.some rfl rfl) (OpV.s rfl) OpV.c (fun hg => bv_lss) ?_
  refine D_or (cy := _) GC.none (OpV.t rfl) (OpV.s rfl) (fun h hb => ⟨h, hb⟩) ?_
  refine D_move GC.none (OpV.t rfl) ?_
  refine D_move (GC.some rfl rfl) (OpV.t rfl) ?_
  refine D_move (GC.some rfl rfl) (OpV.t rfl) ?_
  refine D_bin (GC.some rfl rfl) OpV.c (OpV.s rfl) (fun hg => bv_mul) ?_
  refine D_bin (GC.some rfl rfl) OpV.c (OpV.s rfl) (fun hg => (bv_shlP (hy2 (gnot hg.2)))) ?_
  refine D_bin (GC.some rfl rfl) (OpV.s rfl) (OpV.s rfl) (fun hg => bv_geq) ?_
  refine D_or (cy := _) GC.none (OpV.t rfl) (OpV.s rfl) (fun h hb => ⟨h, hb⟩) ?_
  refine DV_nil ?_
  refine Give_is rfl rfl ?_
  refine Give_drop rfl ?_
  refine Give_drop rfl ?_
  refine Give_drop rfl ?_
  refine Give_drop rfl ?_
  refine Give_drop rfl ?_
  refine Give_drop rfl ?_
  refine Give_drop rfl ?_
  refine Give_drop rfl ?_
  refine Give_drop rfl ?_
  refine Give_drop rfl ?_
  refine Give_drop rfl ?_
  refine Give_drop rfl ?_
  refine Give_drop rfl ?_
  refine Give_nil ?_
  refine W_weaken (l' := [(0, _), (1, _), (20, _)]) (Sub.cons rfl (Sub.cons rfl (Sub.cons rfl (Sub.nil _)))) (MSub.refl _) ?_
  refine W_cond rfl (fun hc3 => ?_) (fun hc3 => ?_)
  · skip
    replace hp := cond_t hc3 hp
    refine W_seq ?_
    refine W_region ?_
    refine L_assign rfl rfl ?_
    refine L_nil ?_
    obtain rfl := Option.some.inj hp
    refine W_ret ?_
    refine res1 rfl (ResOK.tmp rfl) ⟨rfl, rfl⟩ (MSub.nil _)
  · skip
    replace hp := cond_f hc3 hp
    refine W_skip ?_
    refine W_seq ?_
    refine W_region ?_
    refine L_move rfl rfl ?_
    have ho := hp; clear hp; obtain ⟨y4, hy4, hp⟩ := bind_any ho; clear ho
    refine L_mkP (0 : UInt8) rfl rfl rfl el22 rfl rfl (FlatT.flat _) hy4 (fun X5 hdX5 => ?_)
    subst hdX5
    refine L_assign rfl rfl ?_
    refine L_nil ?_
    refine W_seq ?_
    refine W_seq ?_
    refine W_region ?_
    refine L_move rfl rfl ?_
    refine L_binV rfl rfl rfl bv_sub ?_
    refine L_assign rfl rfl ?_
    refine L_nil ?_
    refine W_block ?_
    refine W_while (σ := Int × (TL UInt8) × Int) GT.dat (fun ((v6_0, v6_1, v6_2) : Int × (TL UInt8) × Int) => [(0, .int .i64 v6_0), (5, (TL.hdr v6_1)), (6, .int .i64 v6_2)]) (fun ((v6_0, v6_1, v6_2) : Int × (TL UInt8) × Int) => [treeH v6_1]) [] [] (a0, X5, IntKind.wrap .i64 (a1 - 1)) hp (Sub.cons rfl (Sub.cons rfl (Sub.cons rfl (Sub.nil _)))) (MSub.cons (by first | (with_reducible repeat (first | exact Pick.here _ | apply Pick.there)); done | (repeat (first | exact Pick.here _ | apply Pick.there))) (MSub.nil _)) ?_
    clear hp
    rintro ⟨v6_0, v6_1, v6_2⟩ x6 hp hx6
    try dsimp only [dat_pair, dat_int, dat_bool, dat_str, dat_ar] at hp
    refine W_weaken (l' := [(0, _), (5, _), (6, _)]) (Sub.cons rfl (Sub.cons rfl (Sub.cons rfl (Sub.nil _)))) (M' := [_]) (MSub.cons (by first | (with_reducible repeat (first | exact Pick.here _ | apply Pick.there)); done | (repeat (first | exact Pick.here _ | apply Pick.there))) (MSub.nil _)) ?_
    refine W_seq ?_
    refine W_seq ?_
    refine W_region ?_
    refine L_move rfl rfl ?_
    refine L_binV rfl rfl rfl bv_geq ?_
    refine L_nil ?_
    refine W_weaken (l' := [(0, _), (5, _), (6, _), (26, _)]) (Sub.cons rfl (Sub.cons rfl (Sub.cons rfl (Sub.cons rfl (Sub.nil _))))) (MSub.refl _) ?_
    refine W_cond rfl (fun hc7 => ?_) (fun hc7 => ?_)
    · skip
      replace hp := cond_t hc7 hp
      refine W_skip ?_
      refine W_seq ?_
      refine W_block ?_
      refine W_seq ?_
      refine W_region ?_
      refine L_move rfl rfl ?_
      refine L_move rfl rfl ?_
      refine L_move rfl rfl ?_
      refine L_binV rfl rfl rfl bv_and ?_
      refine L_convInt rfl rfl und5 (by rw [und3]; rfl) ?_
      have ho := hp; clear hp; obtain ⟨u8, hy8, hp⟩ := idx_bind ho; clear ho
      refine L_idxA (X := v6_1) rfl rfl rfl el22 (RdT.tree (by first | (with_reducible repeat (first | exact List.Mem.head _ | apply List.Mem.tail)); done | (repeat (first | exact List.Mem.head _ | apply List.Mem.tail)))) hy8 ?_
      have ho := hp; clear hp; obtain ⟨y9, hy9, hp⟩ := bind_any ho; clear ho
      have ey9 := u8P_some hy9
      try simp only [ey9]
      refine L_conv (M' := treeH u8 :: holeH v6_1 (v6_2.toNat) (GT.cells u8) :: _) (fun w h => hole_open hy8.2 (by first | (with_reducible repeat (first | exact Pick.here _ | apply Pick.there)); done | (repeat (first | exact Pick.here _ | apply Pick.there))) h) ?_
      refine L_stH (X := v6_1) (i := v6_2.toNat) (sz := 1) (fo := 0) (n := 1) rfl rfl (by first | (with_reducible repeat (first | exact Pick.here _ | apply Pick.there)); done | (repeat (first | exact Pick.here _ | apply Pick.there))) rfl (.inr ⟨one5, rfl⟩) rfl (allOne rfl) (Nat.le_of_ble_eq_true rfl) ?_
      refine L_conv (M' := treeH (y9 : UInt8) :: _) (fun w h => addF (y9 : UInt8) h) ?_
      have ho := hp; clear hp; obtain ⟨y10, hy10, hp⟩ := bind_any ho; clear ho
      refine L_close (X := v6_1) (y9 : UInt8) rfl (by first | (with_reducible repeat (first | exact Pick.here _ | apply Pick.there)); done | (repeat (first | exact Pick.here _ | apply Pick.there))) (by first | (with_reducible repeat (first | exact Pick.here _ | apply Pick.there)); done | (repeat (first | exact Pick.here _ | apply Pick.there))) hy10 (fun X11 hdX11 hhX11 => ?_)
      subst hdX11
      try rw [← hhX11]
      refine L_nil ?_
      refine W_region ?_
      refine L_move rfl rfl ?_
      refine L_binV rfl rfl rfl (bv_shr (by decide) (by decide)) ?_
      refine L_assign rfl rfl ?_
      refine L_nil ?_
      refine W_region ?_
      refine L_move rfl rfl ?_
      refine L_binV rfl rfl rfl bv_sub ?_
      refine L_assign rfl rfl ?_
      refine L_nil ?_
      exact ⟨((v6_0 / 2 ^ (8 : Int).toNat), X11, IntKind.wrap .i64 (v6_2 - 1)), (Sub.cons rfl (Sub.cons rfl (Sub.cons rfl (Sub.nil _)))), (Arr.sub (MSub.cons (by first | (with_reducible repeat (first | exact Pick.here _ | apply Pick.there)); done | (repeat (first | exact Pick.here _ | apply Pick.there))) (MSub.nil _))), some_eq hp⟩
    · skip
      replace hp := cond_f hc7 hp
      refine W_exit ?_
      have ho := hp; clear hp; obtain ⟨a12, hp, hx_a12⟩ := map_any ho; clear ho
      obtain rfl := hx6 _ hx_a12
      refine W_seq ?_
      refine W_region ?_
      refine L_move rfl rfl ?_
      refine L_toStr (X := v6_1) rfl rfl und22 und5 und9 (RdT.tree (by first | (with_reducible repeat (first | exact List.Mem.head _ | apply List.Mem.tail)); done | (repeat (first | exact List.Mem.head _ | apply List.Mem.tail)))) ?_
      refine L_assign rfl rfl ?_
      refine L_nil ?_
      obtain rfl := Option.some.inj hp
      refine W_ret ?_
      refine res1 rfl (ResOK.tmp rfl) ⟨rfl, rfl⟩ (MSub.nil _)

noncomputable def i_Frame (a0 : ByteArray) : Option ByteArray :=
  cond (decide (200 < (a0.size : Int))) (some ByteArray.empty) (Option.bind (i_sized a0) (fun y2 => Option.bind (i_Crc y2) (fun y3 => Option.bind (i_Fixed y3 4) (fun y4 => Option.bind (i_sized a0) (fun y5 => Option.bind (catP y4 y5) (fun y6 => some y6))))))

theorem i_Frame_walk (w : World) (a0 : ByteArray)  (r : ByteArray) (hp : i_Frame a0 = some r) : Spec Try.prog 14 [.string a0].toArray w [] (IsV (.string r)) := by
  refine Spec.intro Try.func14 rfl Try.ntmps14 rfl ?_
  unfold i_Frame at hp
  try dsimp only [dat_pair, dat_int, dat_bool, dat_str, dat_ar] at hp
  refine W_seq ?_
  refine W_region ?_
  refine L_assign rfl rfl ?_
  refine L_nil ?_
  refine W_seq ?_
  refine W_seq ?_
  refine W_region ?_
  refine L_move rfl rfl ?_
  refine L_lenT rfl rfl str9 ?_
  refine L_binV rfl rfl rfl bv_gtr ?_
  refine L_nil ?_
  refine W_weaken (l' := [(0, _), (5, _)]) (Sub.cons rfl (Sub.cons rfl (Sub.nil _))) (MSub.refl _) ?_
  refine W_cond rfl (fun hc1 => ?_) (fun hc1 => ?_)
  · skip
    replace hp := cond_t hc1 hp
    refine W_seq ?_
    refine W_region ?_
    refine L_assign rfl rfl ?_
    refine L_nil ?_
    obtain rfl := Option.some.inj hp
    refine W_ret ?_
    refine res1 rfl (ResOK.tmp rfl) ⟨rfl, rfl⟩ (MSub.nil _)
  · skip
    replace hp := cond_f hc1 hp
    refine W_skip ?_
    refine W_seq ?_
    refine W_region ?_
    refine L_move rfl rfl ?_
    have ho := hp; clear hp; obtain ⟨y2, hy2, hp⟩ := bind_any ho; clear ho
    refine L_callX rfl fn66 rfl (by exact fun w hw => i_sized_walk w a0  _ hy2) ?_
    have ho := hp; clear hp; obtain ⟨y3, hy3, hp⟩ := bind_any ho; clear ho
    refine L_callX rfl fn65 rfl (by exact fun w hw => i_Crc_walk w y2  _ hy3) ?_
    have ho := hp; clear hp; obtain ⟨y4, hy4, hp⟩ := bind_any ho; clear ho
    refine L_callX rfl fn64 rfl (by exact fun w hw => i_Fixed_walk w y3 4  _ hy4) ?_
    refine L_move rfl rfl ?_
    have ho := hp; clear hp; obtain ⟨y5, hy5, hp⟩ := bind_any ho; clear ho
    refine L_callX rfl fn66 rfl (by exact fun w hw => i_sized_walk w a0  _ hy5) ?_
    have ho := hp; clear hp; obtain ⟨y6, hy6, hp⟩ := bind_any ho; clear ho
    refine L_binV rfl rfl rfl (bv_saddP hy6) ?_
    refine L_assign rfl rfl ?_
    refine L_nil ?_
    obtain rfl := Option.some.inj hp
    refine W_ret ?_
    refine res1 rfl (ResOK.tmp rfl) ⟨rfl, rfl⟩ (MSub.nil _)

noncomputable def i_frameAt (a0 : ByteArray) : Option (ByteArray × Bool) :=
  cond (decide ((a0.size : Int) < 5)) (some (ByteArray.empty, false)) (Option.bind (sslP a0 4 (a0.size : Int)) (fun y2 => Option.bind (i_scan_text (y2, false)) (fun y3 => Option.bind (i_Frame y3.1) (fun y4 => gb (!((y3.2.2 || (decide (y4 = ByteArray.empty))) || (decide ((a0.size : Int) < (y4.size : Int))))) (sslP a0 0 (y4.size : Int)) (fun y5 => cond (((y3.2.2 || (decide (y4 = ByteArray.empty))) || (decide ((a0.size : Int) < (y4.size : Int)))) || (!decide (y5 = y4))) (some (ByteArray.empty, false)) (some (y3.1, true)))))))

theorem i_frameAt_walk (w : World) (a0 : ByteArray)  (r : ByteArray × Bool) (hp : i_frameAt a0 = some r) : Spec Try.prog 62 [.string a0].toArray w [] (fun v M => ∃ (x0 : ByteArray) (x1 : Bool), v = .tuple #[.string x0, .bool x1] ∧ (GT.dat x0, GT.dat x1) = r ∧ M = []) := by
  refine Spec.intro Try.func62 rfl Try.ntmps62 rfl ?_
  unfold i_frameAt at hp
  try dsimp only [dat_pair, dat_int, dat_bool, dat_str, dat_ar] at hp
  refine W_seq ?_
  refine W_region ?_
  refine L_assign rfl rfl ?_
  refine L_assign rfl rfl ?_
  refine L_nil ?_
  refine W_seq ?_
  refine W_seq ?_
  refine W_region ?_
  refine L_move rfl rfl ?_
  refine L_lenT rfl rfl str9 ?_
  refine L_binV rfl rfl rfl bv_lss ?_
  refine L_nil ?_
  refine W_weaken (l' := [(0, _), (9, _)]) (Sub.cons rfl (Sub.cons rfl (Sub.nil _))) (MSub.refl _) ?_
  refine W_cond rfl (fun hc1 => ?_) (fun hc1 => ?_)
  · skip
    replace hp := cond_t hc1 hp
    refine W_seq ?_
    refine W_region ?_
    refine L_assign rfl rfl ?_
    refine L_assign rfl rfl ?_
    refine L_nil ?_
    obtain rfl := Option.some.inj hp
    refine W_ret ?_
    refine res2 rfl (ResOK.tmp rfl) (ResOK.tmp rfl) ⟨ByteArray.empty, false, rfl, rfl, rfl⟩ (MSub.nil _)
  · skip
    replace hp := cond_f hc1 hp
    refine W_skip ?_
    refine W_seq ?_
    refine W_region ?_
    refine L_move rfl rfl ?_
    have ho := hp; clear hp; obtain ⟨y2, hy2, hp⟩ := bind_any ho; clear ho
    refine L_ssl rfl rfl rfl rfl str9 hy2 ?_
    refine L_build (xs := [(0, .tmp 11)]) (cs := [.string y2, .bool false]) rfl rfl bld148 rfl ?_
    refine L_box rfl rfl (fun bk13 => ?_)
    refine L_assign rfl rfl ?_
    refine L_nil ?_
    refine W_seq ?_
    refine W_region ?_
    refine L_move rfl rfl ?_
    have ho := hp; clear hp; obtain ⟨y3, hy3, hp⟩ := bind_any ho; clear ho
    refine L_callM [blk bk13 _ _] _ rfl fn121 rfl (perm_cons (by first | (with_reducible repeat (first | exact Pick.here _ | apply Pick.there)); done | (repeat (first | exact Pick.here _ | apply Pick.there))) (perm_nil_left _)) (by exact fun w hw => i_scan_text_walk w bk13 (y2, false)  _ hy3) ?_
    rintro vy3 My3 ⟨y3x0, y3y0, hvy3, hdy3, rfl⟩
    subst hvy3
    subst hdy3
    obtain ⟨y3y0_1, y3y0_2⟩ := y3y0
    simp only [cells_pair, cells_int, cells_bool, cells_str, cells_TL, List.cons_append, List.nil_append]
    try dsimp only [dat_pair, dat_int, dat_bool, dat_str, dat_ar] at hp
    refine L_assign rfl rfl ?_
    refine L_nil ?_
    refine W_seq ?_
    refine W_region ?_
    refine L_move rfl rfl ?_
    have ho := hp; clear hp; obtain ⟨y4, hy4, hp⟩ := bind_any ho; clear ho
    refine L_callX rfl fn14 rfl (by exact fun w hw => i_Frame_walk w y3x0  _ hy4) ?_
    refine L_assign rfl rfl ?_
    refine L_nil ?_
    refine W_seq ?_
    refine W_seq ?_
    have ho := hp; clear hp; obtain ⟨y5, hy5, hp⟩ := gb_any ho; clear ho
    refine W_D0 [40] mix (by kernel_rfl) rfl ?_
    refine D_move GC.none (OpV.t rfl) ?_
    refine D_nilCheck GC.none (OpV.t rfl) ?_
    refine D_fieldAddr GC.none (OpV.t rfl) fld148_1 ?_
    refine D_load GC.none (OpV.t rfl) (fun hg => RdC.blk (by first | (with_reducible repeat (first | exact List.Mem.head _ | apply List.Mem.tail)); done | (repeat (first | exact List.Mem.head _ | apply List.Mem.tail)))) one4 rfl ?_
    refine D_move GC.none (OpV.t rfl) ?_
    refine D_move (GC.some rfl rfl) (OpV.t rfl) ?_
    refine D_bin (GC.some rfl rfl) (OpV.s rfl) OpV.c (fun hg => bv_seql) ?_
    refine D_or (cy := _) GC.none (OpV.t rfl) (OpV.s rfl) (fun h hb => ⟨h, hb⟩) ?_
    refine D_move GC.none (OpV.t rfl) ?_
    refine D_move (GC.some rfl rfl) (OpV.t rfl) ?_
    refine D_lenT (GC.some rfl rfl) (OpV.s rfl) str9 ?_
    refine D_move (GC.some rfl rfl) (OpV.t rfl) ?_
    refine D_lenT (GC.some rfl rfl) (OpV.s rfl) str9 ?_
    refine D_bin (GC.some rfl rfl) (OpV.s rfl) (OpV.s rfl) (fun hg => bv_gtr) ?_
    refine D_or (cy := _) GC.none (OpV.t rfl) (OpV.s rfl) (fun h hb => ⟨h, hb⟩) ?_
    refine D_move GC.none (OpV.t rfl) ?_
    refine D_move (GC.some rfl rfl) (OpV.t rfl) ?_
    refine D_move (GC.some rfl rfl) (OpV.t rfl) ?_
    refine D_lenT (GC.some rfl rfl) (OpV.s rfl) str9 ?_
    refine D_ssl (GC.some rfl rfl) (OpV.s rfl) optD.none (optD.some (OpV.s rfl)) str9 (fun hg => (hy5 (gnot hg.2))) ?_
    refine D_move (GC.some rfl rfl) (OpV.t rfl) ?_
    refine D_bin (GC.some rfl rfl) (OpV.s rfl) (OpV.s rfl) (fun hg => bv_sneq) ?_
    refine D_or (cy := _) GC.none (OpV.t rfl) (OpV.s rfl) (fun h hb => ⟨h, hb⟩) ?_
    refine DV_nil ?_
    refine Give_is rfl rfl ?_
    refine Give_drop rfl ?_
    refine Give_drop rfl ?_
    refine Give_drop rfl ?_
    refine Give_drop rfl ?_
    refine Give_drop rfl ?_
    refine Give_drop rfl ?_
    refine Give_drop rfl ?_
    refine Give_drop rfl ?_
    refine Give_drop rfl ?_
    refine Give_drop rfl ?_
    refine Give_drop rfl ?_
    refine Give_drop rfl ?_
    refine Give_drop rfl ?_
    refine Give_drop rfl ?_
    refine Give_drop rfl ?_
    refine Give_drop rfl ?_
    refine Give_drop rfl ?_
    refine Give_drop rfl ?_
    refine Give_drop rfl ?_
    refine Give_drop rfl ?_
    refine Give_drop rfl ?_
    refine Give_drop rfl ?_
    refine Give_nil ?_
    refine W_weaken (l' := [(5, _), (40, _)]) (Sub.cons rfl (Sub.cons rfl (Sub.nil _))) (MSub.refl _) ?_
    refine W_cond rfl (fun hc6 => ?_) (fun hc6 => ?_)
    · skip
      replace hp := cond_t hc6 hp
      refine W_seq ?_
      refine W_region ?_
      refine L_assign rfl rfl ?_
      refine L_assign rfl rfl ?_
      refine L_nil ?_
      obtain rfl := Option.some.inj hp
      refine W_ret ?_
      refine res2 rfl (ResOK.tmp rfl) (ResOK.tmp rfl) ⟨ByteArray.empty, false, rfl, rfl, rfl⟩ (MSub.nil _)
    · skip
      replace hp := cond_f hc6 hp
      refine W_skip ?_
      refine W_seq ?_
      refine W_region ?_
      refine L_move rfl rfl ?_
      refine L_assign rfl rfl ?_
      refine L_assign rfl rfl ?_
      refine L_nil ?_
      obtain rfl := Option.some.inj hp
      refine W_ret ?_
      refine res2 rfl (ResOK.tmp rfl) (ResOK.tmp rfl) ⟨y3x0, true, rfl, rfl, rfl⟩ (MSub.nil _)

noncomputable def i_Unframe (a0 : ByteArray) : Option ((List ByteArray) × Int) :=
  Option.bind (some ([] : List ByteArray)) (fun y2 => whileP (fun s3 : (List ByteArray) × Int => Option.bind (sslP a0 s3.2 (a0.size : Int)) (fun y4 => Option.bind (i_frameAt y4) (fun y5 => cond (!y5.2) (Option.map .inr (some (s3.1, s3.2))) (Option.bind (appP s3.1 [y5.1]) (fun y9 => Option.bind (i_Frame y5.1) (fun y10 => some (.inl ((y9, IntKind.wrap .i64 (s3.2 + (y10.size : Int))))))))))) (y2, 0))

theorem i_Unframe_walk (w : World) (a0 : ByteArray)  (r : (List ByteArray) × Int) (hp : i_Unframe a0 = some r) : Spec Try.prog 11 [.string a0].toArray w [] (fun v M => ∃ (x0 : TL ByteArray) (x1 : Int), v = .tuple #[(TL.hdr x0), .int .i64 x1] ∧ (GT.dat x0, GT.dat x1) = r ∧ M = [treeH x0]) := by
  refine Spec.intro Try.func11 rfl Try.ntmps11 rfl ?_
  unfold i_Unframe at hp
  try dsimp only [dat_pair, dat_int, dat_bool, dat_str, dat_ar] at hp
  refine W_seq ?_
  refine W_region ?_
  refine L_assign (v := (TL.hdr (TL.nil ByteArray 0))) rfl rfl ?_
  refine L_assign rfl rfl ?_
  refine L_nil ?_
  refine W_seq ?_
  refine W_region ?_
  have ho := hp; clear hp; obtain ⟨y2, hy2, hp⟩ := bind_any ho; clear ho
  refine L_mk0 ByteArray rfl el25 (fun X1 hdX1 => ?_)
  obtain rfl : GT.dat X1 = y2 := hdX1.trans (Option.some.inj hy2)
  clear hy2 hdX1
  refine L_assign rfl rfl ?_
  refine L_nil ?_
  refine W_seq ?_
  refine W_region ?_
  refine L_assign rfl rfl ?_
  refine L_nil ?_
  refine W_block ?_
  refine W_while (σ := (TL ByteArray) × Int) GT.dat (fun ((v3_0, v3_1) : (TL ByteArray) × Int) => [(4, (TL.hdr v3_0)), (5, .int .i64 v3_1)]) (fun ((v3_0, v3_1) : (TL ByteArray) × Int) => [treeH v3_0]) [(0, _)] [] (X1, 0) hp (Sub.cons rfl (Sub.cons rfl (Sub.cons rfl (Sub.nil _)))) (MSub.cons (by first | (with_reducible repeat (first | exact Pick.here _ | apply Pick.there)); done | (repeat (first | exact Pick.here _ | apply Pick.there))) (MSub.nil _)) ?_
  clear hp
  rintro ⟨v3_0, v3_1⟩ x3 hp hx3
  try dsimp only [dat_pair, dat_int, dat_bool, dat_str, dat_ar] at hp
  refine W_weaken (l' := [(0, _), (4, _), (5, _)]) (Sub.cons rfl (Sub.cons rfl (Sub.cons rfl (Sub.nil _)))) (M' := [_]) (MSub.cons (by first | (with_reducible repeat (first | exact Pick.here _ | apply Pick.there)); done | (repeat (first | exact Pick.here _ | apply Pick.there))) (MSub.nil _)) ?_
  refine W_block ?_
  refine W_seq ?_
  refine W_region ?_
  refine L_move rfl rfl ?_
  refine L_move rfl rfl ?_
  have ho := hp; clear hp; obtain ⟨y4, hy4, hp⟩ := bind_any ho; clear ho
  refine L_ssl rfl rfl rfl rfl str9 hy4 ?_
  have ho := hp; clear hp; obtain ⟨y5, hy5, hp⟩ := bind_any ho; clear ho
  refine L_callR rfl fn62 rfl (by exact fun w hw => i_frameAt_walk w y4  _ hy5) ?_
  rintro vy5 My5 ⟨y5x0, y5x1, hvy5, hdy5, rfl⟩
  subst hvy5
  subst hdy5
  simp only [cells_pair, cells_int, cells_bool, cells_str, cells_TL, List.cons_append, List.nil_append]
  try dsimp only [dat_pair, dat_int, dat_bool, dat_str, dat_ar] at hp
  refine L_move rfl rfl ?_
  refine L_extract rfl rfl rfl ?_
  refine L_extract rfl rfl rfl ?_
  refine L_assign rfl rfl ?_
  refine L_assign rfl rfl ?_
  refine L_nil ?_
  refine W_seq ?_
  refine W_seq ?_
  refine W_region ?_
  refine L_move rfl rfl ?_
  refine L_not rfl rfl ?_
  refine L_nil ?_
  refine W_weaken (l' := [(0, _), (4, _), (5, _), (6, _), (17, _)]) (Sub.cons rfl (Sub.cons rfl (Sub.cons rfl (Sub.cons rfl (Sub.cons rfl (Sub.nil _)))))) (MSub.refl _) ?_
  refine W_cond rfl (fun hc6 => ?_) (fun hc6 => ?_)
  · skip
    replace hp := cond_t hc6 hp
    refine W_seq ?_
    refine W_region ?_
    refine L_move rfl rfl ?_
    refine L_move rfl rfl ?_
    refine L_assign rfl rfl ?_
    refine L_assign rfl rfl ?_
    refine L_nil ?_
    have ho := hp; clear hp; obtain ⟨a7, hp, hx_a7⟩ := map_any ho; clear ho
    obtain rfl := hx3 _ hx_a7
    obtain rfl := Option.some.inj hp
    refine W_ret ?_
    refine res2 rfl (ResOK.tmp rfl) (ResOK.tmp rfl) ⟨v3_0, v3_1, rfl, rfl, rfl⟩ (MSub.cons (by first | (with_reducible repeat (first | exact Pick.here _ | apply Pick.there)); done | (repeat (first | exact Pick.here _ | apply Pick.there))) (MSub.nil _))
  · skip
    replace hp := cond_f hc6 hp
    refine W_skip ?_
    refine W_seq ?_
    refine W_region ?_
    refine L_move rfl rfl ?_
    refine L_move rfl rfl ?_
    refine L_buildSlice1 rfl rfl el25 rfl (by decide) (by decide) rfl (fun bb22 => ?_)
    have ho := hp; clear hp; obtain ⟨y9, hy9, hp⟩ := bind_any ho; clear ho
    refine L_app1F (X := v3_0) (y5x0 : ByteArray) rfl rfl rfl el25 rfl rfl (by first | (with_reducible repeat (first | exact Pick.here _ | apply Pick.there)); done | (repeat (first | exact Pick.here _ | apply Pick.there))) (by first | (with_reducible repeat (first | exact List.Mem.head _ | apply List.Mem.tail)); done | (repeat (first | exact List.Mem.head _ | apply List.Mem.tail)))  hy9 (by decide) (fun X8 hdX8 => ?_)
    subst hdX8
    refine L_assign rfl rfl ?_
    refine L_nil ?_
    refine W_region ?_
    refine L_move rfl rfl ?_
    refine L_move rfl rfl ?_
    have ho := hp; clear hp; obtain ⟨y10, hy10, hp⟩ := bind_any ho; clear ho
    refine L_callX rfl fn14 rfl (by exact fun w hw => i_Frame_walk w y5x0  _ hy10) ?_
    refine L_lenT rfl rfl str9 ?_
    refine L_binV rfl rfl rfl bv_add ?_
    refine L_assign rfl rfl ?_
    refine L_nil ?_
    exact ⟨(X8, IntKind.wrap .i64 (v3_1 + (y10.size : Int))), (Sub.cons rfl (Sub.cons rfl (Sub.cons rfl (Sub.nil _)))), (Arr.sub (MSub.cons (by first | (with_reducible repeat (first | exact Pick.here _ | apply Pick.there)); done | (repeat (first | exact Pick.here _ | apply Pick.there))) (MSub.nil _))), some_eq hp⟩

noncomputable def s_ReadVar (a0 : ByteArray) : Option (Int × Int) :=
  whileP (fun s1 : Int => cond ((decide (s1 ≤ 7)) && (decide (s1 ≤ (a0.size : Int)))) (whileP (fun s3 : Int × Int => cond (decide (0 ≤ s3.2)) (Option.bind (sidx a0 s3.2) (fun y5 => some (.inl ((IntKind.wrap .i64 (IntKind.wrap .i64 (s3.1 * 128) + (IntKind.wrap .i64 y5).tmod 128), IntKind.wrap .i64 (s3.2 - 1)))))) (Option.map .inr (Option.bind (s_Var s3.1) (fun y7 => Option.bind (sslP a0 0 s1) (fun y8 => cond (decide (y7 = y8)) (Option.map .inr (some (s3.1, s1))) (some (.inl (IntKind.wrap .i64 (s1 + 1))))))))) (0, IntKind.wrap .i64 (s1 - 1))) (Option.map .inr (some (0, 0)))) 1

theorem s_ReadVar_walk (w : World) (a0 : ByteArray)  (r : Int × Int) (hp : s_ReadVar a0 = some r) : Spec Try.prog 160 [.string a0].toArray w [] (fun v M => ∃ (x0 : Int) (x1 : Int), v = .tuple #[.int .i64 x0, .int .i64 x1] ∧ (GT.dat x0, GT.dat x1) = r ∧ M = []) := by
  refine Spec.intro Try.func160 rfl Try.ntmps160 rfl ?_
  unfold s_ReadVar at hp
  try dsimp only [dat_pair, dat_int, dat_bool, dat_str, dat_ar] at hp
  refine W_seq ?_
  refine W_region ?_
  refine L_assign rfl rfl ?_
  refine L_assign rfl rfl ?_
  refine L_nil ?_
  refine W_seq ?_
  refine W_seq ?_
  refine W_region ?_
  refine L_assign rfl rfl ?_
  refine L_nil ?_
  refine W_block ?_
  refine W_while (σ := Int) GT.dat (fun (v1_0 : Int) => [(4, .int .i64 v1_0)]) (fun (v1_0 : Int) => []) [(0, _)] [] 1 hp (Sub.cons rfl (Sub.cons rfl (Sub.nil _))) (MSub.nil _) ?_
  clear hp
  rintro v1_0 x1 hp hx1
  try dsimp only [dat_pair, dat_int, dat_bool, dat_str, dat_ar] at hp
  refine W_weaken (l' := [(0, _), (4, _)]) (Sub.cons rfl (Sub.cons rfl (Sub.nil _))) (M' := []) (MSub.nil _) ?_
  refine W_seq ?_
  refine W_seq ?_
  refine W_D0 [14] mix (by kernel_rfl) rfl ?_
  refine D_move GC.none (OpV.t rfl) ?_
  refine D_bin GC.none (OpV.t rfl) OpV.c (fun hg => bv_leq) ?_
  refine D_move GC.none (OpV.t rfl) ?_
  refine D_move (GC.some rfl rfl) (OpV.t rfl) ?_
  refine D_move (GC.some rfl rfl) (OpV.t rfl) ?_
  refine D_lenT (GC.some rfl rfl) (OpV.s rfl) str9 ?_
  refine D_bin (GC.some rfl rfl) (OpV.s rfl) (OpV.s rfl) (fun hg => bv_leq) ?_
  refine D_and (cy := _) GC.none (OpV.t rfl) (OpV.s rfl) (fun h hb => ⟨h, hb⟩) ?_
  refine DV_nil ?_
  refine Give_is rfl rfl ?_
  refine Give_drop rfl ?_
  refine Give_drop rfl ?_
  refine Give_drop rfl ?_
  refine Give_drop rfl ?_
  refine Give_drop rfl ?_
  refine Give_drop rfl ?_
  refine Give_drop rfl ?_
  refine Give_nil ?_
  refine W_weaken (l' := [(0, _), (4, _), (14, _)]) (Sub.cons rfl (Sub.cons rfl (Sub.cons rfl (Sub.nil _)))) (MSub.refl _) ?_
  refine W_cond rfl (fun hc2 => ?_) (fun hc2 => ?_)
  · skip
    replace hp := cond_t hc2 hp
    refine W_skip ?_
    refine W_seq ?_
    refine W_block ?_
    refine W_seq ?_
    refine W_region ?_
    refine L_assign rfl rfl ?_
    refine L_nil ?_
    refine W_seq ?_
    refine W_seq ?_
    refine W_region ?_
    refine L_move rfl rfl ?_
    refine L_binV rfl rfl rfl bv_sub ?_
    refine L_assign rfl rfl ?_
    refine L_nil ?_
    refine W_block ?_
    refine W_while (σ := Int × Int) GT.dat (fun ((v3_0, v3_1) : Int × Int) => [(5, .int .i64 v3_0), (6, .int .i64 v3_1)]) (fun ((v3_0, v3_1) : Int × Int) => []) [(0, _), (4, _)] [] (0, IntKind.wrap .i64 (v1_0 - 1)) hp (Sub.cons rfl (Sub.cons rfl (Sub.cons rfl (Sub.cons rfl (Sub.nil _))))) (MSub.nil _) ?_
    clear hp
    rintro ⟨v3_0, v3_1⟩ x3 hp hx3
    try dsimp only [dat_pair, dat_int, dat_bool, dat_str, dat_ar] at hp
    refine W_weaken (l' := [(0, _), (4, _), (5, _), (6, _)]) (Sub.cons rfl (Sub.cons rfl (Sub.cons rfl (Sub.cons rfl (Sub.nil _))))) (M' := []) (MSub.nil _) ?_
    refine W_seq ?_
    refine W_seq ?_
    refine W_region ?_
    refine L_move rfl rfl ?_
    refine L_binV rfl rfl rfl bv_geq ?_
    refine L_nil ?_
    refine W_weaken (l' := [(0, _), (4, _), (5, _), (6, _), (20, _)]) (Sub.cons rfl (Sub.cons rfl (Sub.cons rfl (Sub.cons rfl (Sub.cons rfl (Sub.nil _)))))) (MSub.refl _) ?_
    refine W_cond rfl (fun hc4 => ?_) (fun hc4 => ?_)
    · skip
      replace hp := cond_t hc4 hp
      refine W_skip ?_
      refine W_seq ?_
      refine W_block ?_
      refine W_region ?_
      refine L_move rfl rfl ?_
      refine L_binV rfl rfl rfl bv_mul ?_
      refine L_move rfl rfl ?_
      refine L_move rfl rfl ?_
      have ho := hp; clear hp; obtain ⟨y5, hy5, hp⟩ := bind_any ho; clear ho
      refine L_idxS rfl rfl rfl str9 hy5 ?_
      refine L_convInt rfl rfl und3 (by rw [und5]; rfl) ?_
      refine L_binV rfl rfl rfl (bv_rem (by decide)) ?_
      refine L_binV rfl rfl rfl bv_add ?_
      refine L_assign rfl rfl ?_
      refine L_nil ?_
      refine W_region ?_
      refine L_move rfl rfl ?_
      refine L_binV rfl rfl rfl bv_sub ?_
      refine L_assign rfl rfl ?_
      refine L_nil ?_
      exact ⟨(IntKind.wrap .i64 (IntKind.wrap .i64 (v3_0 * 128) + (IntKind.wrap .i64 y5).tmod 128), IntKind.wrap .i64 (v3_1 - 1)), (Sub.cons rfl (Sub.cons rfl (Sub.cons rfl (Sub.cons rfl (Sub.nil _))))), (Arr.sub (MSub.nil _)), some_eq hp⟩
    · skip
      replace hp := cond_f hc4 hp
      refine W_exit ?_
      have ho := hp; clear hp; obtain ⟨a6, hp, hx_a6⟩ := map_any ho; clear ho
      obtain rfl := hx3 _ hx_a6
      refine W_seq ?_
      have ho := hp; clear hp; obtain ⟨y7, hy7, hp⟩ := bind_any ho; clear ho
      have ho := hp; clear hp; obtain ⟨y8, hy8, hp⟩ := bind_any ho; clear ho
      refine W_D0 [36] mix (by kernel_rfl) rfl ?_
      refine D_move GC.none (OpV.t rfl) ?_
      refine D_callX GC.none fn124 (OpVs.cons (OpV.t rfl) (OpVs.nil)) (by exact fun hg w F hF hM => s_Var_walk w v3_0  _ hy7) ?_
      refine D_move GC.none (OpV.t rfl) ?_
      refine D_move GC.none (OpV.t rfl) ?_
      refine D_ssl GC.none (OpV.t rfl) optD.none (optD.some (OpV.t rfl)) str9 (fun hg => hy8) ?_
      refine D_bin GC.none (OpV.t rfl) (OpV.t rfl) (fun hg => bv_seql) ?_
      refine DV_nil ?_
      refine Give_is rfl rfl ?_
      refine Give_drop rfl ?_
      refine Give_drop rfl ?_
      refine Give_drop rfl ?_
      refine Give_drop rfl ?_
      refine Give_drop rfl ?_
      refine Give_nil ?_
      refine W_weaken (l' := [(0, _), (4, _), (5, _), (36, _)]) (Sub.cons rfl (Sub.cons rfl (Sub.cons rfl (Sub.cons rfl (Sub.nil _))))) (MSub.refl _) ?_
      refine W_cond rfl (fun hc9 => ?_) (fun hc9 => ?_)
      · skip
        replace hp := cond_t hc9 hp
        refine W_seq ?_
        refine W_region ?_
        refine L_move rfl rfl ?_
        refine L_move rfl rfl ?_
        refine L_assign rfl rfl ?_
        refine L_assign rfl rfl ?_
        refine L_nil ?_
        have ho := hp; clear hp; obtain ⟨a10, hp, hx_a10⟩ := map_any ho; clear ho
        obtain rfl := hx1 _ hx_a10
        obtain rfl := Option.some.inj hp
        refine W_ret ?_
        refine res2 rfl (ResOK.tmp rfl) (ResOK.tmp rfl) ⟨v3_0, v1_0, rfl, rfl, rfl⟩ (MSub.nil _)
      · skip
        replace hp := cond_f hc9 hp
        refine W_skip ?_
        refine W_region ?_
        refine L_move rfl rfl ?_
        refine L_binV rfl rfl rfl bv_add ?_
        refine L_assign rfl rfl ?_
        refine L_nil ?_
        exact ⟨IntKind.wrap .i64 (v1_0 + 1), (Sub.cons rfl (Sub.cons rfl (Sub.nil _))), (Arr.sub (MSub.nil _)), some_eq hp⟩
  · skip
    replace hp := cond_f hc2 hp
    refine W_exit ?_
    have ho := hp; clear hp; obtain ⟨a11, hp, hx_a11⟩ := map_any ho; clear ho
    obtain rfl := hx1 _ hx_a11
    refine W_seq ?_
    refine W_region ?_
    refine L_assign rfl rfl ?_
    refine L_assign rfl rfl ?_
    refine L_nil ?_
    obtain rfl := Option.some.inj hp
    refine W_ret ?_
    refine res2 rfl (ResOK.tmp rfl) (ResOK.tmp rfl) ⟨0, 0, rfl, rfl, rfl⟩ (MSub.nil _)

noncomputable def s_l4Vars (a0 : ByteArray) (a1 : Int) (a2 : Int) : Option ((List Int) × Int) :=
  Option.bind (some ([] : List Int)) (fun y2 => whileP (fun s3 : Int × (List Int) × Int => cond (decide (s3.2.2 < a2)) (cond ((decide (s3.1 < 0)) || (decide ((a0.size : Int) < s3.1))) (Option.map .inr (some (s3.2.1, (-1)))) (Option.bind (sslP a0 s3.1 (a0.size : Int)) (fun y7 => Option.bind (s_ReadVar y7) (fun y8 => cond (decide (y8.2 = 0)) (Option.map .inr (some (s3.2.1, (-1)))) (Option.bind (appP s3.2.1 [y8.1]) (fun y12 => some (.inl ((IntKind.wrap .i64 (s3.1 + y8.2), y12, IntKind.wrap .i64 (s3.2.2 + 1)))))))))) (Option.map .inr (some (s3.2.1, s3.1)))) (a1, y2, 0))

theorem s_l4Vars_walk (w : World) (a0 : ByteArray) (a1 : Int) (a2 : Int)  (r : (List Int) × Int) (hp : s_l4Vars a0 a1 a2 = some r) : Spec Try.prog 122 [.string a0, .int .i64 a1, .int .i64 a2].toArray w [] (fun v M => ∃ (x0 : TL Int) (x1 : Int), v = .tuple #[(TL.hdr x0), .int .i64 x1] ∧ (GT.dat x0, GT.dat x1) = r ∧ M = [treeH x0]) := by
  refine Spec.intro Try.func122 rfl Try.ntmps122 rfl ?_
  unfold s_l4Vars at hp
  try dsimp only [dat_pair, dat_int, dat_bool, dat_str, dat_ar] at hp
  refine W_seq ?_
  refine W_region ?_
  refine L_assign (v := (TL.hdr (TL.nil Int 0))) rfl rfl ?_
  refine L_assign rfl rfl ?_
  refine L_nil ?_
  refine W_seq ?_
  refine W_region ?_
  have ho := hp; clear hp; obtain ⟨y2, hy2, hp⟩ := bind_any ho; clear ho
  refine L_mk0 Int rfl el34 (fun X1 hdX1 => ?_)
  obtain rfl : GT.dat X1 = y2 := hdX1.trans (Option.some.inj hy2)
  clear hy2 hdX1
  refine L_assign rfl rfl ?_
  refine L_nil ?_
  refine W_seq ?_
  refine W_seq ?_
  refine W_region ?_
  refine L_assign rfl rfl ?_
  refine L_nil ?_
  refine W_block ?_
  refine W_while (σ := Int × (TL Int) × Int) GT.dat (fun ((v3_0, v3_1, v3_2) : Int × (TL Int) × Int) => [(1, .int .i64 v3_0), (8, (TL.hdr v3_1)), (9, .int .i64 v3_2)]) (fun ((v3_0, v3_1, v3_2) : Int × (TL Int) × Int) => [treeH v3_1]) [(0, _), (2, _)] [] (a1, X1, 0) hp (Sub.cons rfl (Sub.cons rfl (Sub.cons rfl (Sub.cons rfl (Sub.cons rfl (Sub.nil _)))))) (MSub.cons (by first | (with_reducible repeat (first | exact Pick.here _ | apply Pick.there)); done | (repeat (first | exact Pick.here _ | apply Pick.there))) (MSub.nil _)) ?_
  clear hp
  rintro ⟨v3_0, v3_1, v3_2⟩ x3 hp hx3
  try dsimp only [dat_pair, dat_int, dat_bool, dat_str, dat_ar] at hp
  refine W_weaken (l' := [(0, _), (1, _), (2, _), (8, _), (9, _)]) (Sub.cons rfl (Sub.cons rfl (Sub.cons rfl (Sub.cons rfl (Sub.cons rfl (Sub.nil _)))))) (M' := [_]) (MSub.cons (by first | (with_reducible repeat (first | exact Pick.here _ | apply Pick.there)); done | (repeat (first | exact Pick.here _ | apply Pick.there))) (MSub.nil _)) ?_
  refine W_seq ?_
  refine W_seq ?_
  refine W_region ?_
  refine L_move rfl rfl ?_
  refine L_move rfl rfl ?_
  refine L_binV rfl rfl rfl bv_lss ?_
  refine L_nil ?_
  refine W_weaken (l' := [(0, _), (1, _), (2, _), (8, _), (9, _), (15, _)]) (Sub.cons rfl (Sub.cons rfl (Sub.cons rfl (Sub.cons rfl (Sub.cons rfl (Sub.cons rfl (Sub.nil _))))))) (MSub.refl _) ?_
  refine W_cond rfl (fun hc4 => ?_) (fun hc4 => ?_)
  · skip
    replace hp := cond_t hc4 hp
    refine W_skip ?_
    refine W_seq ?_
    refine W_block ?_
    refine W_seq ?_
    refine W_seq ?_
    refine W_D0 [25] mix (by kernel_rfl) rfl ?_
    refine D_move GC.none (OpV.t rfl) ?_
    refine D_bin GC.none (OpV.t rfl) OpV.c (fun hg => bv_lss) ?_
    refine D_move GC.none (OpV.t rfl) ?_
    refine D_move (GC.some rfl rfl) (OpV.t rfl) ?_
    refine D_move (GC.some rfl rfl) (OpV.t rfl) ?_
    refine D_lenT (GC.some rfl rfl) (OpV.s rfl) str9 ?_
    refine D_bin (GC.some rfl rfl) (OpV.s rfl) (OpV.s rfl) (fun hg => bv_gtr) ?_
    refine D_or (cy := _) GC.none (OpV.t rfl) (OpV.s rfl) (fun h hb => ⟨h, hb⟩) ?_
    refine DV_nil ?_
    refine Give_is rfl rfl ?_
    refine Give_drop rfl ?_
    refine Give_drop rfl ?_
    refine Give_drop rfl ?_
    refine Give_drop rfl ?_
    refine Give_drop rfl ?_
    refine Give_drop rfl ?_
    refine Give_drop rfl ?_
    refine Give_nil ?_
    refine W_weaken (l' := [(0, _), (1, _), (2, _), (8, _), (9, _), (25, _)]) (Sub.cons rfl (Sub.cons rfl (Sub.cons rfl (Sub.cons rfl (Sub.cons rfl (Sub.cons rfl (Sub.nil _))))))) (MSub.refl _) ?_
    refine W_cond rfl (fun hc5 => ?_) (fun hc5 => ?_)
    · skip
      replace hp := cond_t hc5 hp
      refine W_seq ?_
      refine W_region ?_
      refine L_move rfl rfl ?_
      refine L_assign rfl rfl ?_
      refine L_assign rfl rfl ?_
      refine L_nil ?_
      have ho := hp; clear hp; obtain ⟨a6, hp, hx_a6⟩ := map_any ho; clear ho
      obtain rfl := hx3 _ hx_a6
      obtain rfl := Option.some.inj hp
      refine W_ret ?_
      refine res2 rfl (ResOK.tmp rfl) (ResOK.tmp rfl) ⟨v3_1, (-1), rfl, rfl, rfl⟩ (MSub.cons (by first | (with_reducible repeat (first | exact Pick.here _ | apply Pick.there)); done | (repeat (first | exact Pick.here _ | apply Pick.there))) (MSub.nil _))
    · skip
      replace hp := cond_f hc5 hp
      refine W_skip ?_
      refine W_seq ?_
      refine W_region ?_
      refine L_move rfl rfl ?_
      refine L_move rfl rfl ?_
      have ho := hp; clear hp; obtain ⟨y7, hy7, hp⟩ := bind_any ho; clear ho
      refine L_ssl rfl rfl rfl rfl str9 hy7 ?_
      have ho := hp; clear hp; obtain ⟨y8, hy8, hp⟩ := bind_any ho; clear ho
      refine L_callR rfl fn160 rfl (by exact fun w hw => s_ReadVar_walk w y7  _ hy8) ?_
      rintro vy8 My8 ⟨y8x0, y8x1, hvy8, hdy8, rfl⟩
      subst hvy8
      subst hdy8
      simp only [cells_pair, cells_int, cells_bool, cells_str, cells_TL, List.cons_append, List.nil_append]
      try dsimp only [dat_pair, dat_int, dat_bool, dat_str, dat_ar] at hp
      refine L_move rfl rfl ?_
      refine L_extract rfl rfl rfl ?_
      refine L_extract rfl rfl rfl ?_
      refine L_assign rfl rfl ?_
      refine L_assign rfl rfl ?_
      refine L_nil ?_
      refine W_seq ?_
      refine W_seq ?_
      refine W_region ?_
      refine L_move rfl rfl ?_
      refine L_binV rfl rfl rfl bv_eql ?_
      refine L_nil ?_
      refine W_weaken (l' := [(0, _), (1, _), (2, _), (8, _), (9, _), (10, _), (11, _), (35, _)]) (Sub.cons rfl (Sub.cons rfl (Sub.cons rfl (Sub.cons rfl (Sub.cons rfl (Sub.cons rfl (Sub.cons rfl (Sub.cons rfl (Sub.nil _))))))))) (MSub.refl _) ?_
      refine W_cond rfl (fun hc9 => ?_) (fun hc9 => ?_)
      · skip
        replace hp := cond_t hc9 hp
        refine W_seq ?_
        refine W_region ?_
        refine L_move rfl rfl ?_
        refine L_assign rfl rfl ?_
        refine L_assign rfl rfl ?_
        refine L_nil ?_
        have ho := hp; clear hp; obtain ⟨a10, hp, hx_a10⟩ := map_any ho; clear ho
        obtain rfl := hx3 _ hx_a10
        obtain rfl := Option.some.inj hp
        refine W_ret ?_
        refine res2 rfl (ResOK.tmp rfl) (ResOK.tmp rfl) ⟨v3_1, (-1), rfl, rfl, rfl⟩ (MSub.cons (by first | (with_reducible repeat (first | exact Pick.here _ | apply Pick.there)); done | (repeat (first | exact Pick.here _ | apply Pick.there))) (MSub.nil _))
      · skip
        replace hp := cond_f hc9 hp
        refine W_skip ?_
        refine W_seq ?_
        refine W_region ?_
        refine L_move rfl rfl ?_
        refine L_move rfl rfl ?_
        refine L_buildSlice1 rfl rfl el34 rfl (by decide) (by decide) rfl (fun bb39 => ?_)
        have ho := hp; clear hp; obtain ⟨y12, hy12, hp⟩ := bind_any ho; clear ho
        refine L_app1F (X := v3_1) (y8x0 : Int) rfl rfl rfl el34 rfl rfl (by first | (with_reducible repeat (first | exact Pick.here _ | apply Pick.there)); done | (repeat (first | exact Pick.here _ | apply Pick.there))) (by first | (with_reducible repeat (first | exact List.Mem.head _ | apply List.Mem.tail)); done | (repeat (first | exact List.Mem.head _ | apply List.Mem.tail)))  hy12 (by decide) (fun X11 hdX11 => ?_)
        subst hdX11
        refine L_assign rfl rfl ?_
        refine L_nil ?_
        refine W_region ?_
        refine L_move rfl rfl ?_
        refine L_move rfl rfl ?_
        refine L_binV rfl rfl rfl bv_add ?_
        refine L_assign rfl rfl ?_
        refine L_nil ?_
        refine W_region ?_
        refine L_move rfl rfl ?_
        refine L_binV rfl rfl rfl bv_add ?_
        refine L_assign rfl rfl ?_
        refine L_nil ?_
        exact ⟨(IntKind.wrap .i64 (v3_0 + y8x1), X11, IntKind.wrap .i64 (v3_2 + 1)), (Sub.cons rfl (Sub.cons rfl (Sub.cons rfl (Sub.cons rfl (Sub.cons rfl (Sub.nil _)))))), (Arr.sub (MSub.cons (by first | (with_reducible repeat (first | exact Pick.here _ | apply Pick.there)); done | (repeat (first | exact Pick.here _ | apply Pick.there))) (MSub.nil _))), some_eq hp⟩
  · skip
    replace hp := cond_f hc4 hp
    refine W_exit ?_
    have ho := hp; clear hp; obtain ⟨a13, hp, hx_a13⟩ := map_any ho; clear ho
    obtain rfl := hx3 _ hx_a13
    refine W_seq ?_
    refine W_region ?_
    refine L_move rfl rfl ?_
    refine L_move rfl rfl ?_
    refine L_assign rfl rfl ?_
    refine L_assign rfl rfl ?_
    refine L_nil ?_
    obtain rfl := Option.some.inj hp
    refine W_ret ?_
    refine res2 rfl (ResOK.tmp rfl) (ResOK.tmp rfl) ⟨v3_1, v3_0, rfl, rfl, rfl⟩ (MSub.cons (by first | (with_reducible repeat (first | exact Pick.here _ | apply Pick.there)); done | (repeat (first | exact Pick.here _ | apply Pick.there))) (MSub.nil _))

noncomputable def s_l4Take (a0 : ByteArray) (a1 : Int) : Option (ByteArray × Int) :=
  Option.bind (s_l4Vars a0 a1 1) (fun y1 => gb (!(decide (y1.2 < 0))) (idx y1.1 0) (fun y2 => cond ((decide (y1.2 < 0)) || (decide (IntKind.wrap .i64 ((a0.size : Int) - y1.2) < y2))) (some (ByteArray.empty, (-1))) (Option.bind (idx y1.1 0) (fun y4 => Option.bind (sslP a0 y1.2 (IntKind.wrap .i64 (y1.2 + y4))) (fun y5 => Option.bind (idx y1.1 0) (fun y6 => some (y5, IntKind.wrap .i64 (y1.2 + y6))))))))

theorem s_l4Take_walk (w : World) (a0 : ByteArray) (a1 : Int)  (r : ByteArray × Int) (hp : s_l4Take a0 a1 = some r) : Spec Try.prog 63 [.string a0, .int .i64 a1].toArray w [] (fun v M => ∃ (x0 : ByteArray) (x1 : Int), v = .tuple #[.string x0, .int .i64 x1] ∧ (GT.dat x0, GT.dat x1) = r ∧ M = []) := by
  refine Spec.intro Try.func63 rfl Try.ntmps63 rfl ?_
  unfold s_l4Take at hp
  try dsimp only [dat_pair, dat_int, dat_bool, dat_str, dat_ar] at hp
  refine W_seq ?_
  refine W_region ?_
  refine L_assign rfl rfl ?_
  refine L_assign rfl rfl ?_
  refine L_nil ?_
  refine W_seq ?_
  refine W_region ?_
  refine L_move rfl rfl ?_
  refine L_move rfl rfl ?_
  have ho := hp; clear hp; obtain ⟨y1, hy1, hp⟩ := bind_any ho; clear ho
  refine L_callR rfl fn122 rfl (by exact fun w hw => s_l4Vars_walk w a0 a1 1  _ hy1) ?_
  rintro vy1 My1 ⟨y1x0, y1x1, hvy1, hdy1, rfl⟩
  subst hvy1
  subst hdy1
  simp only [cells_pair, cells_int, cells_bool, cells_str, cells_TL, List.cons_append, List.nil_append]
  try dsimp only [dat_pair, dat_int, dat_bool, dat_str, dat_ar] at hp
  refine L_move rfl rfl ?_
  refine L_extract rfl rfl rfl ?_
  refine L_extract rfl rfl rfl ?_
  refine L_assign rfl rfl ?_
  refine L_assign rfl rfl ?_
  refine L_nil ?_
  refine W_seq ?_
  refine W_seq ?_
  have ho := hp; clear hp; obtain ⟨u2, hy2, hp⟩ := idx_gb ho; clear ho
  refine W_D0 [25] mix (by kernel_rfl) rfl ?_
  refine D_move GC.none (OpV.t rfl) ?_
  refine D_bin GC.none (OpV.t rfl) OpV.c (fun hg => bv_lss) ?_
  refine D_move GC.none (OpV.t rfl) ?_
  refine D_move (GC.some rfl rfl) (OpV.t rfl) ?_
  refine D_idxA (X := y1x0) (GC.some rfl rfl) (OpV.s rfl) OpV.c el34 (RdT.tree (by first | (with_reducible repeat (first | exact List.Mem.head _ | apply List.Mem.tail)); done | (repeat (first | exact List.Mem.head _ | apply List.Mem.tail)))) (fun hg => hy2 (gnot hg.2)) ?_
  refine D_load0 (GC.some rfl rfl) (OpV.s rfl) (fun hg => RdT.at (RdT.tree (by first | (with_reducible repeat (first | exact List.Mem.head _ | apply List.Mem.tail)); done | (repeat (first | exact List.Mem.head _ | apply List.Mem.tail)))) (hy2 (gnot hg.2)).2) one3 rfl ?_
  refine D_move (GC.some rfl rfl) (OpV.t rfl) ?_
  refine D_lenT (GC.some rfl rfl) (OpV.s rfl) str9 ?_
  refine D_move (GC.some rfl rfl) (OpV.t rfl) ?_
  refine D_bin (GC.some rfl rfl) (OpV.s rfl) (OpV.s rfl) (fun hg => bv_sub) ?_
  refine D_bin (GC.some rfl rfl) (OpV.s rfl) (OpV.s rfl) (fun hg => bv_gtr) ?_
  refine D_or (cy := _) GC.none (OpV.t rfl) (OpV.s rfl) (fun h hb => ⟨h, hb⟩) ?_
  refine DV_nil ?_
  refine Give_is rfl rfl ?_
  refine Give_drop rfl ?_
  refine Give_drop rfl ?_
  refine Give_drop rfl ?_
  refine Give_drop rfl ?_
  refine Give_drop rfl ?_
  refine Give_drop rfl ?_
  refine Give_drop rfl ?_
  refine Give_drop rfl ?_
  refine Give_drop rfl ?_
  refine Give_drop rfl ?_
  refine Give_drop rfl ?_
  refine Give_nil ?_
  refine W_weaken (l' := [(0, _), (6, _), (7, _), (25, _)]) (Sub.cons rfl (Sub.cons rfl (Sub.cons rfl (Sub.cons rfl (Sub.nil _))))) (MSub.refl _) ?_
  refine W_cond rfl (fun hc3 => ?_) (fun hc3 => ?_)
  · skip
    replace hp := cond_t hc3 hp
    refine W_seq ?_
    refine W_region ?_
    refine L_assign rfl rfl ?_
    refine L_assign rfl rfl ?_
    refine L_nil ?_
    obtain rfl := Option.some.inj hp
    refine W_ret ?_
    refine res2 rfl (ResOK.tmp rfl) (ResOK.tmp rfl) ⟨ByteArray.empty, (-1), rfl, rfl, rfl⟩ (MSub.nil _)
  · skip
    replace hp := cond_f hc3 hp
    refine W_skip ?_
    refine W_seq ?_
    have ho := hp; clear hp; obtain ⟨u4, hy4, hp⟩ := idx_bind ho; clear ho
    have ho := hp; clear hp; obtain ⟨y5, hy5, hp⟩ := bind_any ho; clear ho
    have ho := hp; clear hp; obtain ⟨u6, hy6, hp⟩ := idx_bind ho; clear ho
    obtain rfl : u4 = u6 := Option.some.inj (hy4.2.symm.trans hy6.2)
    refine W_D0 [4, 5] mix (by kernel_rfl) rfl ?_
    refine D_move GC.none (OpV.t rfl) ?_
    refine D_move GC.none (OpV.t rfl) ?_
    refine D_move GC.none (OpV.t rfl) ?_
    refine D_move GC.none (OpV.t rfl) ?_
    refine D_idxA (X := y1x0) GC.none (OpV.t rfl) OpV.c el34 (RdT.tree (by first | (with_reducible repeat (first | exact List.Mem.head _ | apply List.Mem.tail)); done | (repeat (first | exact List.Mem.head _ | apply List.Mem.tail)))) (fun _ => hy4) ?_
    refine D_load0 GC.none (OpV.t rfl) (fun hg => RdT.at (RdT.tree (by first | (with_reducible repeat (first | exact List.Mem.head _ | apply List.Mem.tail)); done | (repeat (first | exact List.Mem.head _ | apply List.Mem.tail)))) (hy4).2) one3 rfl ?_
    refine D_bin GC.none (OpV.t rfl) (OpV.t rfl) (fun hg => bv_add) ?_
    refine D_ssl GC.none (OpV.t rfl) (optD.some (OpV.t rfl)) (optD.some (OpV.t rfl)) str9 (fun hg => hy5) ?_
    refine D_move GC.none (OpV.t rfl) ?_
    refine D_move GC.none (OpV.t rfl) ?_
    refine D_idxA (X := y1x0) GC.none (OpV.t rfl) OpV.c el34 (RdT.tree (by first | (with_reducible repeat (first | exact List.Mem.head _ | apply List.Mem.tail)); done | (repeat (first | exact List.Mem.head _ | apply List.Mem.tail)))) (fun _ => hy4) ?_
    refine D_load0 GC.none (OpV.t rfl) (fun hg => RdT.at (RdT.tree (by first | (with_reducible repeat (first | exact List.Mem.head _ | apply List.Mem.tail)); done | (repeat (first | exact List.Mem.head _ | apply List.Mem.tail)))) (hy4).2) one3 rfl ?_
    refine D_bin GC.none (OpV.t rfl) (OpV.t rfl) (fun hg => bv_add) ?_
    refine D_assign GC.none (OpV.t rfl) ?_
    refine D_assign GC.none (OpV.t rfl) ?_
    refine DV_nil ?_
    refine Give_is rfl rfl ?_
    refine Give_is rfl rfl ?_
    refine Give_drop rfl ?_
    refine Give_drop rfl ?_
    refine Give_drop rfl ?_
    refine Give_drop rfl ?_
    refine Give_drop rfl ?_
    refine Give_drop rfl ?_
    refine Give_drop rfl ?_
    refine Give_drop rfl ?_
    refine Give_drop rfl ?_
    refine Give_drop rfl ?_
    refine Give_drop rfl ?_
    refine Give_drop rfl ?_
    refine Give_drop rfl ?_
    refine Give_nil ?_
    obtain rfl := Option.some.inj hp
    refine W_ret ?_
    refine res2 rfl (ResOK.tmp rfl) (ResOK.tmp rfl) ⟨y5, IntKind.wrap .i64 (y1x1 + u4), rfl, rfl, rfl⟩ (MSub.nil _)

noncomputable def s_Unframe (a0 : ByteArray) : Option ((List ByteArray) × Int) :=
  Option.bind (some ([] : List ByteArray)) (fun y2 => whileP (fun s3 : (List ByteArray) × Int => Option.bind (s_l4Take a0 (IntKind.wrap .i64 (s3.2 + 4))) (fun y4 => gb (!(decide (y4.2 < 0))) (s_Frame y4.1) (fun y5 => gb (!((decide (y4.2 < 0)) || (decide (y5 = ByteArray.empty)))) (s_Frame y4.1) (fun y6 => gb (!((decide (y4.2 < 0)) || (decide (y5 = ByteArray.empty)))) (sslP a0 s3.2 y4.2) (fun y7 => cond (((decide (y4.2 < 0)) || (decide (y5 = ByteArray.empty))) || (!decide (y6 = y7))) (Option.map .inr (some (s3.1, s3.2))) (Option.bind (appP s3.1 [y4.1]) (fun y11 => some (.inl ((y11, y4.2)))))))))) (y2, 0))

theorem s_Unframe_walk (w : World) (a0 : ByteArray)  (r : (List ByteArray) × Int) (hp : s_Unframe a0 = some r) : Spec Try.prog 12 [.string a0].toArray w [] (fun v M => ∃ (x0 : TL ByteArray) (x1 : Int), v = .tuple #[(TL.hdr x0), .int .i64 x1] ∧ (GT.dat x0, GT.dat x1) = r ∧ M = [treeH x0]) := by
  refine Spec.intro Try.func12 rfl Try.ntmps12 rfl ?_
  unfold s_Unframe at hp
  try dsimp only [dat_pair, dat_int, dat_bool, dat_str, dat_ar] at hp
  refine W_seq ?_
  refine W_region ?_
  refine L_assign (v := (TL.hdr (TL.nil ByteArray 0))) rfl rfl ?_
  refine L_assign rfl rfl ?_
  refine L_nil ?_
  refine W_seq ?_
  refine W_region ?_
  have ho := hp; clear hp; obtain ⟨y2, hy2, hp⟩ := bind_any ho; clear ho
  refine L_mk0 ByteArray rfl el25 (fun X1 hdX1 => ?_)
  obtain rfl : GT.dat X1 = y2 := hdX1.trans (Option.some.inj hy2)
  clear hy2 hdX1
  refine L_assign rfl rfl ?_
  refine L_nil ?_
  refine W_seq ?_
  refine W_region ?_
  refine L_assign rfl rfl ?_
  refine L_nil ?_
  refine W_block ?_
  refine W_while (σ := (TL ByteArray) × Int) GT.dat (fun ((v3_0, v3_1) : (TL ByteArray) × Int) => [(4, (TL.hdr v3_0)), (5, .int .i64 v3_1)]) (fun ((v3_0, v3_1) : (TL ByteArray) × Int) => [treeH v3_0]) [(0, _)] [] (X1, 0) hp (Sub.cons rfl (Sub.cons rfl (Sub.cons rfl (Sub.nil _)))) (MSub.cons (by first | (with_reducible repeat (first | exact Pick.here _ | apply Pick.there)); done | (repeat (first | exact Pick.here _ | apply Pick.there))) (MSub.nil _)) ?_
  clear hp
  rintro ⟨v3_0, v3_1⟩ x3 hp hx3
  try dsimp only [dat_pair, dat_int, dat_bool, dat_str, dat_ar] at hp
  refine W_weaken (l' := [(0, _), (4, _), (5, _)]) (Sub.cons rfl (Sub.cons rfl (Sub.cons rfl (Sub.nil _)))) (M' := [_]) (MSub.cons (by first | (with_reducible repeat (first | exact Pick.here _ | apply Pick.there)); done | (repeat (first | exact Pick.here _ | apply Pick.there))) (MSub.nil _)) ?_
  refine W_block ?_
  refine W_seq ?_
  refine W_region ?_
  refine L_move rfl rfl ?_
  refine L_move rfl rfl ?_
  refine L_binV rfl rfl rfl bv_add ?_
  have ho := hp; clear hp; obtain ⟨y4, hy4, hp⟩ := bind_any ho; clear ho
  refine L_callR rfl fn63 rfl (by exact fun w hw => s_l4Take_walk w a0 (IntKind.wrap .i64 (v3_1 + 4))  _ hy4) ?_
  rintro vy4 My4 ⟨y4x0, y4x1, hvy4, hdy4, rfl⟩
  subst hvy4
  subst hdy4
  simp only [cells_pair, cells_int, cells_bool, cells_str, cells_TL, List.cons_append, List.nil_append]
  try dsimp only [dat_pair, dat_int, dat_bool, dat_str, dat_ar] at hp
  refine L_move rfl rfl ?_
  refine L_extract rfl rfl rfl ?_
  refine L_extract rfl rfl rfl ?_
  refine L_assign rfl rfl ?_
  refine L_assign rfl rfl ?_
  refine L_nil ?_
  refine W_seq ?_
  refine W_seq ?_
  have ho := hp; clear hp; obtain ⟨y5, hy5, hp⟩ := gb_any ho; clear ho
  have ho := hp; clear hp; obtain ⟨y6, hy6, hp⟩ := gb_any ho; clear ho
  have ho := hp; clear hp; obtain ⟨y7, hy7, hp⟩ := gb_any ho; clear ho
  refine W_D0 [31] mix (by kernel_rfl) rfl ?_
  refine D_move GC.none (OpV.t rfl) ?_
  refine D_bin GC.none (OpV.t rfl) OpV.c (fun hg => bv_lss) ?_
  refine D_move GC.none (OpV.t rfl) ?_
  refine D_move (GC.some rfl rfl) (OpV.t rfl) ?_
  refine D_callX (GC.some rfl rfl) fn16 (OpVs.cons (OpV.s rfl) (OpVs.nil)) (by exact fun hg w F hF hM => s_Frame_walk w y4x0  _ (hy5 (gnot hg.2))) ?_
  refine D_bin (GC.some rfl rfl) (OpV.s rfl) OpV.c (fun hg => bv_seql) ?_
  refine D_or (cy := _) GC.none (OpV.t rfl) (OpV.s rfl) (fun h hb => ⟨h, hb⟩) ?_
  refine D_move GC.none (OpV.t rfl) ?_
  refine D_move (GC.some rfl rfl) (OpV.t rfl) ?_
  refine D_callX (GC.some rfl rfl) fn16 (OpVs.cons (OpV.s rfl) (OpVs.nil)) (by exact fun hg w F hF hM => s_Frame_walk w y4x0  _ (hy6 (gnot hg.2))) ?_
  refine D_move (GC.some rfl rfl) (OpV.t rfl) ?_
  refine D_move (GC.some rfl rfl) (OpV.t rfl) ?_
  refine D_move (GC.some rfl rfl) (OpV.t rfl) ?_
  refine D_ssl (GC.some rfl rfl) (OpV.s rfl) (optD.some (OpV.s rfl)) (optD.some (OpV.s rfl)) str9 (fun hg => (hy7 (gnot hg.2))) ?_
  refine D_bin (GC.some rfl rfl) (OpV.s rfl) (OpV.s rfl) (fun hg => bv_sneq) ?_
  refine D_or (cy := _) GC.none (OpV.t rfl) (OpV.s rfl) (fun h hb => ⟨h, hb⟩) ?_
  refine DV_nil ?_
  refine Give_is rfl rfl ?_
  refine Give_drop rfl ?_
  refine Give_drop rfl ?_
  refine Give_drop rfl ?_
  refine Give_drop rfl ?_
  refine Give_drop rfl ?_
  refine Give_drop rfl ?_
  refine Give_drop rfl ?_
  refine Give_drop rfl ?_
  refine Give_drop rfl ?_
  refine Give_drop rfl ?_
  refine Give_drop rfl ?_
  refine Give_drop rfl ?_
  refine Give_drop rfl ?_
  refine Give_drop rfl ?_
  refine Give_drop rfl ?_
  refine Give_nil ?_
  refine W_weaken (l' := [(0, _), (4, _), (5, _), (6, _), (7, _), (31, _)]) (Sub.cons rfl (Sub.cons rfl (Sub.cons rfl (Sub.cons rfl (Sub.cons rfl (Sub.cons rfl (Sub.nil _))))))) (MSub.refl _) ?_
  refine W_cond rfl (fun hc8 => ?_) (fun hc8 => ?_)
  · skip
    replace hp := cond_t hc8 hp
    refine W_seq ?_
    refine W_region ?_
    refine L_move rfl rfl ?_
    refine L_move rfl rfl ?_
    refine L_assign rfl rfl ?_
    refine L_assign rfl rfl ?_
    refine L_nil ?_
    have ho := hp; clear hp; obtain ⟨a9, hp, hx_a9⟩ := map_any ho; clear ho
    obtain rfl := hx3 _ hx_a9
    obtain rfl := Option.some.inj hp
    refine W_ret ?_
    refine res2 rfl (ResOK.tmp rfl) (ResOK.tmp rfl) ⟨v3_0, v3_1, rfl, rfl, rfl⟩ (MSub.cons (by first | (with_reducible repeat (first | exact Pick.here _ | apply Pick.there)); done | (repeat (first | exact Pick.here _ | apply Pick.there))) (MSub.nil _))
  · skip
    replace hp := cond_f hc8 hp
    refine W_skip ?_
    refine W_seq ?_
    refine W_region ?_
    refine L_move rfl rfl ?_
    refine L_move rfl rfl ?_
    refine L_buildSlice1 rfl rfl el25 rfl (by decide) (by decide) rfl (fun bb36 => ?_)
    have ho := hp; clear hp; obtain ⟨y11, hy11, hp⟩ := bind_any ho; clear ho
    refine L_app1F (X := v3_0) (y4x0 : ByteArray) rfl rfl rfl el25 rfl rfl (by first | (with_reducible repeat (first | exact Pick.here _ | apply Pick.there)); done | (repeat (first | exact Pick.here _ | apply Pick.there))) (by first | (with_reducible repeat (first | exact List.Mem.head _ | apply List.Mem.tail)); done | (repeat (first | exact List.Mem.head _ | apply List.Mem.tail)))  hy11 (by decide) (fun X10 hdX10 => ?_)
    subst hdX10
    refine L_assign rfl rfl ?_
    refine L_nil ?_
    refine W_region ?_
    refine L_move rfl rfl ?_
    refine L_assign rfl rfl ?_
    refine L_nil ?_
    exact ⟨(X10, y4x1), (Sub.cons rfl (Sub.cons rfl (Sub.cons rfl (Sub.nil _)))), (Arr.sub (MSub.cons (by first | (with_reducible repeat (first | exact Pick.here _ | apply Pick.there)); done | (repeat (first | exact Pick.here _ | apply Pick.there))) (MSub.nil _))), some_eq hp⟩

noncomputable def w_sameTexts (a0 : List ByteArray) (a1 : List ByteArray) : Option Bool :=
  cond (!decide ((a0.length : Int) = (a1.length : Int))) (some false) (whileP (fun s2 : Int => cond (decide (s2 < (a0.length : Int))) (Option.bind (idx a0 s2) (fun y4 => Option.bind (idx a1 s2) (fun y5 => cond (!decide (y4 = y5)) (Option.map .inr (some false)) (some (.inl (IntKind.wrap .i64 (s2 + 1))))))) (Option.map .inr (some true))) 0)

theorem w_sameTexts_walk (w : World) (a0 : TL ByteArray) (a1 : TL ByteArray) (h0 : GT.rd w [] a0) (h1 : GT.rd w [] a1) (r : Bool) (hp : w_sameTexts (GT.dat a0) (GT.dat a1) = some r) : Spec Try.prog 13 [(TL.hdr a0), (TL.hdr a1)].toArray w [] (IsV (.bool r)) := by
  refine Spec.intro Try.func13 rfl Try.ntmps13 rfl ?_
  unfold w_sameTexts at hp
  try dsimp only [dat_pair, dat_int, dat_bool, dat_str, dat_ar] at hp
  refine W_seq ?_
  refine W_region ?_
  refine L_assign rfl rfl ?_
  refine L_nil ?_
  refine W_seq ?_
  refine W_seq ?_
  refine W_region ?_
  refine L_move rfl rfl ?_
  refine L_lenP (X := a0) rfl rfl el25 ?_
  refine L_move rfl rfl ?_
  refine L_lenP (X := a1) rfl rfl el25 ?_
  refine L_binV rfl rfl rfl bv_neq ?_
  refine L_nil ?_
  refine W_weaken (l' := [(0, _), (1, _), (10, _)]) (Sub.cons rfl (Sub.cons rfl (Sub.cons rfl (Sub.nil _)))) (MSub.refl _) ?_
  refine W_cond rfl (fun hc1 => ?_) (fun hc1 => ?_)
  · skip
    replace hp := cond_t hc1 hp
    refine W_seq ?_
    refine W_region ?_
    refine L_assign rfl rfl ?_
    refine L_nil ?_
    obtain rfl := Option.some.inj hp
    refine W_ret ?_
    refine res1 rfl (ResOK.tmp rfl) ⟨rfl, rfl⟩ (MSub.nil _)
  · skip
    replace hp := cond_f hc1 hp
    refine W_skip ?_
    refine W_seq ?_
    refine W_seq ?_
    refine W_region ?_
    refine L_assign rfl rfl ?_
    refine L_nil ?_
    refine W_block ?_
    refine W_while (σ := Int) GT.dat (fun (v2_0 : Int) => [(5, .int .i64 v2_0)]) (fun (v2_0 : Int) => []) [(0, _), (1, _)] [] 0 hp (Sub.cons rfl (Sub.cons rfl (Sub.cons rfl (Sub.nil _)))) (MSub.nil _) ?_
    clear hp
    rintro v2_0 x2 hp hx2
    try dsimp only [dat_pair, dat_int, dat_bool, dat_str, dat_ar] at hp
    refine W_weaken (l' := [(0, _), (1, _), (5, _)]) (Sub.cons rfl (Sub.cons rfl (Sub.cons rfl (Sub.nil _)))) (M' := []) (MSub.nil _) ?_
    refine W_seq ?_
    refine W_seq ?_
    refine W_region ?_
    refine L_move rfl rfl ?_
    refine L_move rfl rfl ?_
    refine L_lenP (X := a0) rfl rfl el25 ?_
    refine L_binV rfl rfl rfl bv_lss ?_
    refine L_nil ?_
    refine W_weaken (l' := [(0, _), (1, _), (5, _), (14, _)]) (Sub.cons rfl (Sub.cons rfl (Sub.cons rfl (Sub.cons rfl (Sub.nil _))))) (MSub.refl _) ?_
    refine W_cond rfl (fun hc3 => ?_) (fun hc3 => ?_)
    · skip
      replace hp := cond_t hc3 hp
      refine W_skip ?_
      refine W_seq ?_
      refine W_block ?_
      refine W_seq ?_
      have ho := hp; clear hp; obtain ⟨u4, hy4, hp⟩ := idx_bind ho; clear ho
      have ho := hp; clear hp; obtain ⟨u5, hy5, hp⟩ := idx_bind ho; clear ho
      refine W_D0 [25] mix (by kernel_rfl) rfl ?_
      refine D_move GC.none (OpV.t rfl) ?_
      refine D_move GC.none (OpV.t rfl) ?_
      refine D_idxA (X := a0) GC.none (OpV.t rfl) (OpV.t rfl) el25 (RdT.old h0) (fun _ => hy4) ?_
      refine D_load0 GC.none (OpV.t rfl) (fun hg => RdT.at (RdT.old h0) (hy4).2) one9 rfl ?_
      refine D_move GC.none (OpV.t rfl) ?_
      refine D_move GC.none (OpV.t rfl) ?_
      refine D_idxA (X := a1) GC.none (OpV.t rfl) (OpV.t rfl) el25 (RdT.old h1) (fun _ => hy5) ?_
      refine D_load0 GC.none (OpV.t rfl) (fun hg => RdT.at (RdT.old h1) (hy5).2) one9 rfl ?_
      refine D_bin GC.none (OpV.t rfl) (OpV.t rfl) (fun hg => bv_sneq) ?_
      refine DV_nil ?_
      refine Give_is rfl rfl ?_
      refine Give_drop rfl ?_
      refine Give_drop rfl ?_
      refine Give_drop rfl ?_
      refine Give_drop rfl ?_
      refine Give_drop rfl ?_
      refine Give_drop rfl ?_
      refine Give_drop rfl ?_
      refine Give_drop rfl ?_
      refine Give_nil ?_
      refine W_weaken (l' := [(0, _), (1, _), (5, _), (25, _)]) (Sub.cons rfl (Sub.cons rfl (Sub.cons rfl (Sub.cons rfl (Sub.nil _))))) (MSub.refl _) ?_
      refine W_cond rfl (fun hc6 => ?_) (fun hc6 => ?_)
      · skip
        replace hp := cond_t hc6 hp
        refine W_seq ?_
        refine W_region ?_
        refine L_assign rfl rfl ?_
        refine L_nil ?_
        have ho := hp; clear hp; obtain ⟨a7, hp, hx_a7⟩ := map_any ho; clear ho
        obtain rfl := hx2 _ hx_a7
        obtain rfl := Option.some.inj hp
        refine W_ret ?_
        refine res1 rfl (ResOK.tmp rfl) ⟨rfl, rfl⟩ (MSub.nil _)
      · skip
        replace hp := cond_f hc6 hp
        refine W_skip ?_
        refine W_region ?_
        refine L_move rfl rfl ?_
        refine L_binV rfl rfl rfl bv_add ?_
        refine L_assign rfl rfl ?_
        refine L_nil ?_
        exact ⟨IntKind.wrap .i64 (v2_0 + 1), (Sub.cons rfl (Sub.cons rfl (Sub.cons rfl (Sub.nil _)))), (Arr.sub (MSub.nil _)), some_eq hp⟩
    · skip
      replace hp := cond_f hc3 hp
      refine W_exit ?_
      have ho := hp; clear hp; obtain ⟨a8, hp, hx_a8⟩ := map_any ho; clear ho
      obtain rfl := hx2 _ hx_a8
      refine W_seq ?_
      refine W_region ?_
      refine L_assign rfl rfl ?_
      refine L_nil ?_
      obtain rfl := Option.some.inj hp
      refine W_ret ?_
      refine res1 rfl (ResOK.tmp rfl) ⟨rfl, rfl⟩ (MSub.nil _)

noncomputable def w_FnFrames (a0 : List UInt8) : Option Bool :=
  Option.bind (w_big a0) (fun y1 => cond y1 (some true) (Option.bind (s_DrawUnframe a0) (fun y3 => Option.bind (i_Unframe y3) (fun y4 => Option.bind (s_Unframe y3) (fun y5 => gb (!(!decide (y4.2 = y5.2))) (w_sameTexts y4.1 y5.1) (fun y6 => cond ((!decide (y4.2 = y5.2)) || (!y6)) (some false) (whileP (fun s8 : ByteArray × Int => cond (decide (s8.2 < (y4.1.length : Int))) (Option.bind (idx y4.1 s8.2) (fun y10 => Option.bind (i_Frame y10) (fun y11 => Option.bind (catP s8.1 y11) (fun y12 => some (.inl ((y12, IntKind.wrap .i64 (s8.2 + 1)))))))) (Option.map .inr (Option.bind (w_at a0 0) (fun y14 => Option.bind (remP y14 (IntKind.wrap .i64 (y4.2 + 1))) (fun y15 => Option.bind (sslP y3 0 y15) (fun y16 => Option.bind (i_Unframe y16) (fun y17 => Option.bind (sslP y3 0 y4.2) (fun y18 => gb ((decide (s8.1 = y18)) && (decide (y17.2 ≤ y15))) (slcP y4.1 0 (y17.1.length : Int)) (fun y20 => gb ((decide (s8.1 = y18)) && (decide (y17.2 ≤ y15))) (w_sameTexts y17.1 y20) (fun y21 => gb (((decide (s8.1 = y18)) && (decide (y17.2 ≤ y15))) && y21) (i_Frame ByteArray.empty) (fun y22 => gb (((decide (s8.1 = y18)) && (decide (y17.2 ≤ y15))) && y21) (s_Frame ByteArray.empty) (fun y23 => some ((((decide (s8.1 = y18)) && (decide (y17.2 ≤ y15))) && y21) && (decide (y22 = y23))))))))))))))) (ByteArray.empty, 0))))))))

theorem w_FnFrames_walk (w : World) (a0 : TL UInt8) (h0 : GT.rd w [] a0) (r : Bool) (hp : w_FnFrames (GT.dat a0) = some r) : Spec Try.prog 3 [(TL.hdr a0)].toArray w [] (IsV (.bool r)) := by
  refine Spec.intro Try.func3 rfl Try.ntmps3 rfl ?_
  unfold w_FnFrames at hp
  try dsimp only [dat_pair, dat_int, dat_bool, dat_str, dat_ar] at hp
  refine W_seq ?_
  refine W_region ?_
  refine L_assign rfl rfl ?_
  refine L_nil ?_
  refine W_seq ?_
  refine W_seq ?_
  refine W_region ?_
  refine L_move rfl rfl ?_
  have ho := hp; clear hp; obtain ⟨y1, hy1, hp⟩ := bind_any ho; clear ho
  refine L_callX rfl fn9 rfl (by exact fun w hw => w_big_walk w a0 (RdT.now (RdT.old h0) hw) _ hy1) ?_
  refine L_nil ?_
  refine W_weaken (l' := [(0, _), (14, _)]) (Sub.cons rfl (Sub.cons rfl (Sub.nil _))) (MSub.refl _) ?_
  refine W_cond rfl (fun hc2 => ?_) (fun hc2 => ?_)
  · skip
    replace hp := cond_t hc2 hp
    refine W_seq ?_
    refine W_region ?_
    refine L_assign rfl rfl ?_
    refine L_nil ?_
    obtain rfl := Option.some.inj hp
    refine W_ret ?_
    refine res1 rfl (ResOK.tmp rfl) ⟨rfl, rfl⟩ (MSub.nil _)
  · skip
    replace hp := cond_f hc2 hp
    refine W_skip ?_
    refine W_seq ?_
    refine W_region ?_
    refine L_move rfl rfl ?_
    have ho := hp; clear hp; obtain ⟨y3, hy3, hp⟩ := bind_any ho; clear ho
    refine L_callX rfl fn10 rfl (by exact fun w hw => s_DrawUnframe_walk w a0 (RdT.now (RdT.old h0) hw) _ hy3) ?_
    refine L_assign rfl rfl ?_
    refine L_nil ?_
    refine W_seq ?_
    refine W_region ?_
    refine L_move rfl rfl ?_
    have ho := hp; clear hp; obtain ⟨y4, hy4, hp⟩ := bind_any ho; clear ho
    refine L_callR rfl fn11 rfl (by exact fun w hw => i_Unframe_walk w y3  _ hy4) ?_
    rintro vy4 My4 ⟨y4x0, y4x1, hvy4, hdy4, rfl⟩
    subst hvy4
    subst hdy4
    simp only [cells_pair, cells_int, cells_bool, cells_str, cells_TL, List.cons_append, List.nil_append]
    try dsimp only [dat_pair, dat_int, dat_bool, dat_str, dat_ar] at hp
    refine L_move rfl rfl ?_
    refine L_extract rfl rfl rfl ?_
    refine L_extract rfl rfl rfl ?_
    refine L_assign rfl rfl ?_
    refine L_assign rfl rfl ?_
    refine L_nil ?_
    refine W_seq ?_
    refine W_region ?_
    refine L_move rfl rfl ?_
    have ho := hp; clear hp; obtain ⟨y5, hy5, hp⟩ := bind_any ho; clear ho
    refine L_callR rfl fn12 rfl (by exact fun w hw => s_Unframe_walk w y3  _ hy5) ?_
    rintro vy5 My5 ⟨y5x0, y5x1, hvy5, hdy5, rfl⟩
    subst hvy5
    subst hdy5
    simp only [cells_pair, cells_int, cells_bool, cells_str, cells_TL, List.cons_append, List.nil_append]
    try dsimp only [dat_pair, dat_int, dat_bool, dat_str, dat_ar] at hp
    refine L_move rfl rfl ?_
    refine L_extract rfl rfl rfl ?_
    refine L_extract rfl rfl rfl ?_
    refine L_assign rfl rfl ?_
    refine L_assign rfl rfl ?_
    refine L_nil ?_
    refine W_seq ?_
    refine W_seq ?_
    have ho := hp; clear hp; obtain ⟨y6, hy6, hp⟩ := gb_any ho; clear ho
    refine W_D0 [35] mix (by kernel_rfl) rfl ?_
    refine D_move GC.none (OpV.t rfl) ?_
    refine D_move GC.none (OpV.t rfl) ?_
    refine D_bin GC.none (OpV.t rfl) (OpV.t rfl) (fun hg => bv_neq) ?_
    refine D_move GC.none (OpV.t rfl) ?_
    refine D_move (GC.some rfl rfl) (OpV.t rfl) ?_
    refine D_move (GC.some rfl rfl) (OpV.t rfl) ?_
    refine D_callX (GC.some rfl rfl) fn13 (OpVs.cons (OpV.s rfl) (OpVs.cons (OpV.s rfl) (OpVs.nil))) (by exact fun hg w F hF hM => w_sameTexts_walk w y4x0 y5x0 (RdT.nowS (RdT.tree (by first | (with_reducible repeat (first | exact List.Mem.head _ | apply List.Mem.tail)); done | (repeat (first | exact List.Mem.head _ | apply List.Mem.tail)))) hF hM) (RdT.nowS (RdT.tree (by first | (with_reducible repeat (first | exact List.Mem.head _ | apply List.Mem.tail)); done | (repeat (first | exact List.Mem.head _ | apply List.Mem.tail)))) hF hM) _ (hy6 (gnot hg.2))) ?_
    refine D_not (GC.some rfl rfl) (OpV.s rfl) ?_
    refine D_or (cy := _) GC.none (OpV.t rfl) (OpV.s rfl) (fun h hb => ⟨h, hb⟩) ?_
    refine DV_nil ?_
    refine Give_is rfl rfl ?_
    refine Give_drop rfl ?_
    refine Give_drop rfl ?_
    refine Give_drop rfl ?_
    refine Give_drop rfl ?_
    refine Give_drop rfl ?_
    refine Give_drop rfl ?_
    refine Give_drop rfl ?_
    refine Give_drop rfl ?_
    refine Give_nil ?_
    refine W_weaken (l' := [(0, _), (3, _), (4, _), (5, _), (35, _)]) (Sub.cons rfl (Sub.cons rfl (Sub.cons rfl (Sub.cons rfl (Sub.cons rfl (Sub.nil _)))))) (MSub.refl _) ?_
    refine W_cond rfl (fun hc7 => ?_) (fun hc7 => ?_)
    · skip
      replace hp := cond_t hc7 hp
      refine W_seq ?_
      refine W_region ?_
      refine L_assign rfl rfl ?_
      refine L_nil ?_
      obtain rfl := Option.some.inj hp
      refine W_ret ?_
      refine res1 rfl (ResOK.tmp rfl) ⟨rfl, rfl⟩ (MSub.nil _)
    · skip
      replace hp := cond_f hc7 hp
      refine W_skip ?_
      refine W_seq ?_
      refine W_region ?_
      refine L_assign rfl rfl ?_
      refine L_nil ?_
      refine W_seq ?_
      refine W_seq ?_
      refine W_region ?_
      refine L_assign rfl rfl ?_
      refine L_nil ?_
      refine W_block ?_
      refine W_while (σ := ByteArray × Int) GT.dat (fun ((v8_0, v8_1) : ByteArray × Int) => [(8, .string v8_0), (9, .int .i64 v8_1)]) (fun ((v8_0, v8_1) : ByteArray × Int) => []) [(0, _), (3, _), (4, _), (5, _)] [treeH y4x0] (ByteArray.empty, 0) hp (Sub.cons rfl (Sub.cons rfl (Sub.cons rfl (Sub.cons rfl (Sub.cons rfl (Sub.cons rfl (Sub.nil _))))))) (MSub.cons (by first | (with_reducible repeat (first | exact Pick.here _ | apply Pick.there)); done | (repeat (first | exact Pick.here _ | apply Pick.there))) (MSub.nil _)) ?_
      clear hp
      rintro ⟨v8_0, v8_1⟩ x8 hp hx8
      try dsimp only [dat_pair, dat_int, dat_bool, dat_str, dat_ar] at hp
      refine W_weaken (l' := [(0, _), (3, _), (4, _), (5, _), (8, _), (9, _)]) (Sub.cons rfl (Sub.cons rfl (Sub.cons rfl (Sub.cons rfl (Sub.cons rfl (Sub.cons rfl (Sub.nil _))))))) (M' := [_]) (MSub.cons (by first | (with_reducible repeat (first | exact Pick.here _ | apply Pick.there)); done | (repeat (first | exact Pick.here _ | apply Pick.there))) (MSub.nil _)) ?_
      refine W_seq ?_
      refine W_seq ?_
      refine W_region ?_
      refine L_move rfl rfl ?_
      refine L_move rfl rfl ?_
      refine L_lenP (X := y4x0) rfl rfl el25 ?_
      refine L_binV rfl rfl rfl bv_lss ?_
      refine L_nil ?_
      refine W_weaken (l' := [(0, _), (3, _), (4, _), (5, _), (8, _), (9, _), (39, _)]) (Sub.cons rfl (Sub.cons rfl (Sub.cons rfl (Sub.cons rfl (Sub.cons rfl (Sub.cons rfl (Sub.cons rfl (Sub.nil _)))))))) (MSub.refl _) ?_
      refine W_cond rfl (fun hc9 => ?_) (fun hc9 => ?_)
      · skip
        replace hp := cond_t hc9 hp
        refine W_skip ?_
        refine W_seq ?_
        refine W_block ?_
        refine W_region ?_
        refine L_move rfl rfl ?_
        refine L_move rfl rfl ?_
        refine L_move rfl rfl ?_
        have ho := hp; clear hp; obtain ⟨u10, hy10, hp⟩ := idx_bind ho; clear ho
        refine L_idxA (X := y4x0) rfl rfl rfl el25 (RdT.tree (by first | (with_reducible repeat (first | exact List.Mem.head _ | apply List.Mem.tail)); done | (repeat (first | exact List.Mem.head _ | apply List.Mem.tail)))) hy10 ?_
        refine L_load0 rfl rfl (RdT.at (RdT.tree (by first | (with_reducible repeat (first | exact List.Mem.head _ | apply List.Mem.tail)); done | (repeat (first | exact List.Mem.head _ | apply List.Mem.tail)))) (hy10).2) one9 rfl ?_
        have ho := hp; clear hp; obtain ⟨y11, hy11, hp⟩ := bind_any ho; clear ho
        refine L_callX rfl fn14 rfl (by exact fun w hw => i_Frame_walk w u10  _ hy11) ?_
        have ho := hp; clear hp; obtain ⟨y12, hy12, hp⟩ := bind_any ho; clear ho
        refine L_binV rfl rfl rfl (bv_saddP hy12) ?_
        refine L_assign rfl rfl ?_
        refine L_nil ?_
        refine W_region ?_
        refine L_move rfl rfl ?_
        refine L_binV rfl rfl rfl bv_add ?_
        refine L_assign rfl rfl ?_
        refine L_nil ?_
        exact ⟨(y12, IntKind.wrap .i64 (v8_1 + 1)), (Sub.cons rfl (Sub.cons rfl (Sub.cons rfl (Sub.cons rfl (Sub.cons rfl (Sub.cons rfl (Sub.nil _))))))), (Arr.sub (MSub.cons (by first | (with_reducible repeat (first | exact Pick.here _ | apply Pick.there)); done | (repeat (first | exact Pick.here _ | apply Pick.there))) (MSub.nil _))), some_eq hp⟩
      · skip
        replace hp := cond_f hc9 hp
        refine W_exit ?_
        have ho := hp; clear hp; obtain ⟨a13, hp, hx_a13⟩ := map_any ho; clear ho
        obtain rfl := hx8 _ hx_a13
        refine W_seq ?_
        refine W_region ?_
        refine L_move rfl rfl ?_
        have ho := hp; clear hp; obtain ⟨y14, hy14, hp⟩ := bind_any ho; clear ho
        refine L_callX rfl fn15 rfl (by exact fun w hw => w_at_walk w a0 0 (RdT.now (RdT.old h0) hw) _ hy14) ?_
        refine L_move rfl rfl ?_
        refine L_binV rfl rfl rfl bv_add ?_
        have ho := hp; clear hp; obtain ⟨y15, hy15, hp⟩ := bind_any ho; clear ho
        refine L_binV rfl rfl rfl (bv_remP hy15) ?_
        refine L_assign rfl rfl ?_
        refine L_nil ?_
        refine W_seq ?_
        refine W_region ?_
        refine L_move rfl rfl ?_
        refine L_move rfl rfl ?_
        have ho := hp; clear hp; obtain ⟨y16, hy16, hp⟩ := bind_any ho; clear ho
        refine L_ssl rfl rfl rfl rfl str9 hy16 ?_
        have ho := hp; clear hp; obtain ⟨y17, hy17, hp⟩ := bind_any ho; clear ho
        refine L_callR rfl fn11 rfl (by exact fun w hw => i_Unframe_walk w y16  _ hy17) ?_
        rintro vy17 My17 ⟨y17x0, y17x1, hvy17, hdy17, rfl⟩
        subst hvy17
        subst hdy17
        simp only [cells_pair, cells_int, cells_bool, cells_str, cells_TL, List.cons_append, List.nil_append]
        try dsimp only [dat_pair, dat_int, dat_bool, dat_str, dat_ar] at hp
        refine L_move rfl rfl ?_
        refine L_extract rfl rfl rfl ?_
        refine L_extract rfl rfl rfl ?_
        refine L_assign rfl rfl ?_
        refine L_assign rfl rfl ?_
        refine L_nil ?_
        refine W_seq ?_
        have ho := hp; clear hp; obtain ⟨y18, hy18, hp⟩ := bind_any ho; clear ho
        have ho := hp; clear hp; obtain ⟨y20, hy20, hny20, hp⟩ := gb_anyD ho; clear ho
        have ho := hp; clear hp; obtain ⟨y21, hy21, hp⟩ := gb_any ho; clear ho
        have ho := hp; clear hp; obtain ⟨y22, hy22, hp⟩ := gb_any ho; clear ho
        have ho := hp; clear hp; obtain ⟨y23, hy23, hp⟩ := gb_any ho; clear ho
        refine W_D0 [2] mix (by kernel_rfl) rfl ?_
        refine D_move GC.none (OpV.t rfl) ?_
        refine D_move GC.none (OpV.t rfl) ?_
        refine D_move GC.none (OpV.t rfl) ?_
        refine D_ssl GC.none (OpV.t rfl) optD.none (optD.some (OpV.t rfl)) str9 (fun hg => hy18) ?_
        refine D_bin GC.none (OpV.t rfl) (OpV.t rfl) (fun hg => bv_seql) ?_
        refine D_move GC.none (OpV.t rfl) ?_
        refine D_move (GC.some rfl rfl) (OpV.t rfl) ?_
        refine D_move (GC.some rfl rfl) (OpV.t rfl) ?_
        refine D_bin (GC.some rfl rfl) (OpV.s rfl) (OpV.s rfl) (fun hg => bv_leq) ?_
        refine D_and (cy := _) GC.none (OpV.t rfl) (OpV.s rfl) (fun h hb => ⟨h, hb⟩) ?_
        refine D_move GC.none (OpV.t rfl) ?_
        refine D_move (GC.some rfl rfl) (OpV.t rfl) ?_
        refine D_move (GC.some rfl rfl) (OpV.t rfl) ?_
        refine D_move (GC.some rfl rfl) (OpV.t rfl) ?_
        refine D_lenP (X := y17x0) (GC.some rfl rfl) (OpV.s rfl) el25 ?_
        refine D_slcG (X := y4x0) (GC.some rfl rfl) (OpV.s rfl) optD.none (optD.some (OpV.s rfl)) el25 rfl (RdT.tree (by first | (with_reducible repeat (first | exact List.Mem.head _ | apply List.Mem.tail)); done | (repeat (first | exact List.Mem.head _ | apply List.Mem.tail)))) (fun hg => hy20 hg.2) (fun hn => hny20 (by simpa using hn)) (fun X19 hdX19 hRX19 => ?_)
        subst hdX19
        refine D_callX (GC.some rfl rfl) fn13 (OpVs.cons (OpV.s rfl) (OpVs.cons (OpV.s rfl) (OpVs.nil))) (by exact fun hg w F hF hM => w_sameTexts_walk w y17x0 X19 (RdT.nowS (RdT.tree (by first | (with_reducible repeat (first | exact List.Mem.head _ | apply List.Mem.tail)); done | (repeat (first | exact List.Mem.head _ | apply List.Mem.tail)))) hF hM) (RdT.nowS (RdT.map hRX19 (RdT.tree (by first | (with_reducible repeat (first | exact List.Mem.head _ | apply List.Mem.tail)); done | (repeat (first | exact List.Mem.head _ | apply List.Mem.tail))))) hF hM) _ (hy21 hg.2)) ?_
        refine D_and (cy := _) GC.none (OpV.t rfl) (OpV.s rfl) (fun h hb => ⟨h, hb⟩) ?_
        refine D_move GC.none (OpV.t rfl) ?_
        refine D_callX (GC.some rfl rfl) fn14 (OpVs.cons OpV.c (OpVs.nil)) (by exact fun hg w F hF hM => i_Frame_walk w ByteArray.empty  _ (hy22 hg.2)) ?_
        refine D_callX (GC.some rfl rfl) fn16 (OpVs.cons OpV.c (OpVs.nil)) (by exact fun hg w F hF hM => s_Frame_walk w ByteArray.empty  _ (hy23 hg.2)) ?_
        refine D_bin (GC.some rfl rfl) (OpV.s rfl) (OpV.s rfl) (fun hg => bv_seql) ?_
        refine D_and (cy := _) GC.none (OpV.t rfl) (OpV.s rfl) (fun h hb => ⟨h, hb⟩) ?_
        refine D_assign GC.none (OpV.t rfl) ?_
        refine DV_nil ?_
        refine Give_is rfl rfl ?_
        refine Give_drop rfl ?_
        refine Give_drop rfl ?_
        refine Give_drop rfl ?_
        refine Give_drop rfl ?_
        refine Give_drop rfl ?_
        refine Give_drop rfl ?_
        refine Give_drop rfl ?_
        refine Give_drop rfl ?_
        refine Give_drop rfl ?_
        refine Give_drop rfl ?_
        refine Give_drop rfl ?_
        refine Give_drop rfl ?_
        refine Give_drop rfl ?_
        refine Give_drop rfl ?_
        refine Give_drop rfl ?_
        refine Give_drop rfl ?_
        refine Give_drop rfl ?_
        refine Give_drop rfl ?_
        refine Give_drop rfl ?_
        refine Give_drop rfl ?_
        refine Give_drop rfl ?_
        refine Give_drop rfl ?_
        refine Give_drop rfl ?_
        refine Give_nil ?_
        obtain rfl := Option.some.inj hp
        refine W_ret ?_
        refine res1 rfl (ResOK.tmp rfl) ⟨rfl, rfl⟩ (MSub.nil _)

end Go.Proofs.SL
