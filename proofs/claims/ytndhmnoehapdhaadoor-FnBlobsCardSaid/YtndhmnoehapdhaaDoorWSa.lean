/- Walks of functions, each with the function on data that it follows. -/
import Derived.Test.YtndhmnoehapdhaaDoorW0
import Derived.Test.YtndhmnoehapdhaaDoorG0
namespace Go.Proofs.SL
open Go
theorem fn102 : IsFn Tryd.prog 102 := ⟨_, Tryd.func102, by kernel_rfl, rfl⟩
theorem one5 : oneOf Tryd.prog 5 = true := by kernel_rfl
theorem str9 : isStr Tryd.prog 9 = true := by kernel_rfl
theorem und153 : Tryd.prog.underlying 153 = some (.int .u32) := by kernel_rfl
theorem und128 : Tryd.prog.underlying 128 = some (.int .u64) := by kernel_rfl
theorem zar154 : zeroOf Tryd.prog 154 = some (aC .u32 (List.replicate 8 0)) := by kernel_rfl
theorem zar178 : zeroOf Tryd.prog 178 = some (aC .u32 (List.replicate 64 0)) := by kernel_rfl
theorem fn147 : IsFn Tryd.prog 147 := ⟨_, Tryd.func147, by kernel_rfl, rfl⟩
theorem ar178 : arOf Tryd.prog 178 = some 64 := by kernel_rfl
theorem one153 : oneOf Tryd.prog 153 = true := by kernel_rfl
theorem fn148 : IsFn Tryd.prog 148 := ⟨_, Tryd.func148, by kernel_rfl, rfl⟩
theorem agg154 : aggOf Tryd.prog 154 = some 8 := by kernel_rfl
theorem ar154 : arOf Tryd.prog 154 = some 8 := by kernel_rfl
theorem fn125 : IsFn Tryd.prog 125 := ⟨_, Tryd.func125, by kernel_rfl, rfl⟩
theorem fn126 : IsFn Tryd.prog 126 := ⟨_, Tryd.func126, by kernel_rfl, rfl⟩
theorem fn105 : IsFn Tryd.prog 105 := ⟨_, Tryd.func105, by kernel_rfl, rfl⟩
noncomputable def i_Fixed (a0 : Int) (a1 : Int) : Option ByteArray :=
  Option.bind (i_within a1 1 7) (fun y1 => gb (!((!y1) || (decide (a0 < 0)))) (shlP .i64 1 (IntKind.wrap .i64 (8 * a1))) (fun y2 => cond (((!y1) || (decide (a0 < 0))) || (decide (y2 ≤ a0))) (some ByteArray.empty) (Option.bind (mkP 1 a1 (0 : UInt8)) (fun y4 => whileP (fun s6 : Int × (List UInt8) × Int => cond (decide (0 ≤ s6.2.2)) (Option.bind (idx s6.2.1 s6.2.2) (fun y8 => Option.bind (u8P (IntKind.wrap .u8 (bits .and .i64 s6.1 255))) (fun y9 => Option.bind (some (s6.2.1.set (s6.2.2.toNat) y9)) (fun y10 => some (.inl (((s6.1 / 2 ^ (8 : Int).toNat), y10, IntKind.wrap .i64 (s6.2.2 - 1)))))))) (Option.map .inr (some (strP s6.2.1)))) (a0, y4, IntKind.wrap .i64 (a1 - 1))))))

theorem i_Fixed_walk (w : World) (a0 : Int) (a1 : Int)  (r : ByteArray) (hp : i_Fixed a0 a1 = some r) : Spec Tryd.prog 125 [.int .i64 a0, .int .i64 a1].toArray w [] (IsV (.string r)) := by
  refine Spec.intro Tryd.func125 rfl Tryd.ntmps125 rfl ?_
  unfold i_Fixed at hp
  try dsimp only [dat_pair, dat_int, dat_bool, dat_str, dat_ar] at hp
  refine W_seq ?_
  refine W_region ?_
  refine L_assign rfl rfl ?_
  refine L_nil ?_
  refine W_seq ?_
  refine W_seq ?_
  have ho := hp; clear hp; obtain ⟨y1, hy1, hp⟩ := bind_any ho; clear ho
  have ho := hp; clear hp; obtain ⟨y2, hy2, hp⟩ := gb_any ho; clear ho
  refine W_D0 [20] mix (by kernel_rfl) rfl ?_
  refine D_move GC.none (OpV.t rfl) ?_
  refine D_callX GC.none fn102 (OpVs.cons (OpV.t rfl) (OpVs.cons OpV.c (OpVs.cons OpV.c (OpVs.nil)))) (by exact fun hg w F hF hM => i_within_walk w a1 1 7  _ hy1) ?_
  refine D_not GC.none (OpV.t rfl) ?_
  refine D_move GC.none (OpV.t rfl) ?_
  refine D_move (GC.some rfl rfl) (OpV.t rfl) ?_
  refine D_bin (GC.some rfl rfl) (OpV.s rfl) OpV.c (fun hg => bv_lss) ?_
  refine D_or (cy := _) GC.none (OpV.t rfl) (OpV.s rfl) (fun h hb => ⟨h, hb⟩) ?_
  refine D_move GC.none (OpV.t rfl) ?_
  refine D_move (GC.some rfl rfl) (OpV.t rfl) ?_
  refine D_move (GC.some rfl rfl) (OpV.t rfl) ?_
  refine D_bin (GC.some rfl rfl) OpV.c (OpV.s rfl) (fun hg => bv_mul) ?_
  refine D_bin (GC.some rfl rfl) OpV.c (OpV.s rfl) (fun hg => (bv_shlP (hy2 (gnot hg.2)))) ?_
  refine D_bin (GC.some rfl rfl) (OpV.s rfl) (OpV.s rfl) (fun hg => bv_geq) ?_
  refine D_or (cy := _) GC.none (OpV.t rfl) (OpV.s rfl) (fun h hb => ⟨h, hb⟩) ?_
  refine DV_nil ?_
  refine Give_is rfl rfl ?_
  refine Give_drop rfl ?_
  refine Give_drop rfl ?_
  refine Give_drop rfl ?_
  refine Give_drop rfl ?_
  refine Give_drop rfl ?_
  refine Give_drop rfl ?_
  refine Give_drop rfl ?_
  refine Give_drop rfl ?_
  refine Give_drop rfl ?_
  refine Give_drop rfl ?_
  refine Give_drop rfl ?_
  refine Give_drop rfl ?_
  refine Give_drop rfl ?_
  refine Give_nil ?_
  refine W_weaken (l' := [(0, _), (1, _), (20, _)]) (Sub.cons rfl (Sub.cons rfl (Sub.cons rfl (Sub.nil _)))) (MSub.refl _) ?_
  refine W_cond rfl (fun hc3 => ?_) (fun hc3 => ?_)
  · skip
    replace hp := cond_t hc3 hp
    refine W_seq ?_
    refine W_region ?_
    refine L_assign rfl rfl ?_
    refine L_nil ?_
    obtain rfl := Option.some.inj hp
    refine W_ret ?_
    refine res1 rfl (ResOK.tmp rfl) ⟨rfl, rfl⟩ (MSub.nil _)
  · skip
    replace hp := cond_f hc3 hp
    refine W_skip ?_
    refine W_seq ?_
    refine W_region ?_
    refine L_move rfl rfl ?_
    have ho := hp; clear hp; obtain ⟨y4, hy4, hp⟩ := bind_any ho; clear ho
    refine L_mkP (0 : UInt8) rfl rfl rfl el59 rfl rfl (FlatT.flat _) hy4 (fun X5 hdX5 => ?_)
    subst hdX5
    refine L_assign rfl rfl ?_
    refine L_nil ?_
    refine W_seq ?_
    refine W_seq ?_
    refine W_region ?_
    refine L_move rfl rfl ?_
    refine L_binV rfl rfl rfl bv_sub ?_
    refine L_assign rfl rfl ?_
    refine L_nil ?_
    refine W_block ?_
    refine W_while (σ := Int × (TL UInt8) × Int) GT.dat (fun ((v6_0, v6_1, v6_2) : Int × (TL UInt8) × Int) => [(0, .int .i64 v6_0), (5, (TL.hdr v6_1)), (6, .int .i64 v6_2)]) (fun ((v6_0, v6_1, v6_2) : Int × (TL UInt8) × Int) => [treeH v6_1]) [] [] (a0, X5, IntKind.wrap .i64 (a1 - 1)) hp (Sub.cons rfl (Sub.cons rfl (Sub.cons rfl (Sub.nil _)))) (MSub.cons (by first | (with_reducible repeat (first | exact Pick.here _ | apply Pick.there)); done | (repeat (first | exact Pick.here _ | apply Pick.there))) (MSub.nil _)) ?_
    clear hp
    rintro ⟨v6_0, v6_1, v6_2⟩ x6 hp hx6
    try dsimp only [dat_pair, dat_int, dat_bool, dat_str, dat_ar] at hp
    refine W_weaken (l' := [(0, _), (5, _), (6, _)]) (Sub.cons rfl (Sub.cons rfl (Sub.cons rfl (Sub.nil _)))) (M' := [_]) (MSub.cons (by first | (with_reducible repeat (first | exact Pick.here _ | apply Pick.there)); done | (repeat (first | exact Pick.here _ | apply Pick.there))) (MSub.nil _)) ?_
    refine W_seq ?_
    refine W_seq ?_
    refine W_region ?_
    refine L_move rfl rfl ?_
    refine L_binV rfl rfl rfl bv_geq ?_
    refine L_nil ?_
    refine W_weaken (l' := [(0, _), (5, _), (6, _), (26, _)]) (Sub.cons rfl (Sub.cons rfl (Sub.cons rfl (Sub.cons rfl (Sub.nil _))))) (MSub.refl _) ?_
    refine W_cond rfl (fun hc7 => ?_) (fun hc7 => ?_)
    · skip
      replace hp := cond_t hc7 hp
      refine W_skip ?_
      refine W_seq ?_
      refine W_block ?_
      refine W_seq ?_
      refine W_region ?_
      refine L_move rfl rfl ?_
      refine L_move rfl rfl ?_
      refine L_move rfl rfl ?_
      refine L_binV rfl rfl rfl bv_and ?_
      refine L_convInt rfl rfl und5 (by rw [und3]; rfl) ?_
      have ho := hp; clear hp; obtain ⟨u8, hy8, hp⟩ := idx_bind ho; clear ho
      refine L_idxA (X := v6_1) rfl rfl rfl el59 (RdT.tree (by first | (with_reducible repeat (first | exact List.Mem.head _ | apply List.Mem.tail)); done | (repeat (first | exact List.Mem.head _ | apply List.Mem.tail)))) hy8 ?_
      have ho := hp; clear hp; obtain ⟨y9, hy9, hp⟩ := bind_any ho; clear ho
      have ey9 := u8P_some hy9
      try simp only [ey9]
      refine L_conv (M' := treeH u8 :: holeH v6_1 (v6_2.toNat) (GT.cells u8) :: _) (fun w h => hole_open hy8.2 (by first | (with_reducible repeat (first | exact Pick.here _ | apply Pick.there)); done | (repeat (first | exact Pick.here _ | apply Pick.there))) h) ?_
      refine L_stH (X := v6_1) (i := v6_2.toNat) (sz := 1) (fo := 0) (n := 1) rfl rfl (by first | (with_reducible repeat (first | exact Pick.here _ | apply Pick.there)); done | (repeat (first | exact Pick.here _ | apply Pick.there))) rfl (.inr ⟨one5, rfl⟩) rfl (allOne rfl) (Nat.le_of_ble_eq_true rfl) ?_
      refine L_conv (M' := treeH (y9 : UInt8) :: _) (fun w h => addF (y9 : UInt8) h) ?_
      have ho := hp; clear hp; obtain ⟨y10, hy10, hp⟩ := bind_any ho; clear ho
      refine L_close (X := v6_1) (y9 : UInt8) rfl (by first | (with_reducible repeat (first | exact Pick.here _ | apply Pick.there)); done | (repeat (first | exact Pick.here _ | apply Pick.there))) (by first | (with_reducible repeat (first | exact Pick.here _ | apply Pick.there)); done | (repeat (first | exact Pick.here _ | apply Pick.there))) hy10 (fun X11 hdX11 hhX11 => ?_)
      subst hdX11
      try rw [← hhX11]
      refine L_nil ?_
      refine W_region ?_
      refine L_move rfl rfl ?_
      refine L_binV rfl rfl rfl (bv_shr (by decide) (by decide)) ?_
      refine L_assign rfl rfl ?_
      refine L_nil ?_
      refine W_region ?_
      refine L_move rfl rfl ?_
      refine L_binV rfl rfl rfl bv_sub ?_
      refine L_assign rfl rfl ?_
      refine L_nil ?_
      exact ⟨((v6_0 / 2 ^ (8 : Int).toNat), X11, IntKind.wrap .i64 (v6_2 - 1)), (Sub.cons rfl (Sub.cons rfl (Sub.cons rfl (Sub.nil _)))), (Arr.sub (MSub.cons (by first | (with_reducible repeat (first | exact Pick.here _ | apply Pick.there)); done | (repeat (first | exact Pick.here _ | apply Pick.there))) (MSub.nil _))), some_eq hp⟩
    · skip
      replace hp := cond_f hc7 hp
      refine W_exit ?_
      have ho := hp; clear hp; obtain ⟨a12, hp, hx_a12⟩ := map_any ho; clear ho
      obtain rfl := hx6 _ hx_a12
      refine W_seq ?_
      refine W_region ?_
      refine L_move rfl rfl ?_
      refine L_toStr (X := v6_1) rfl rfl und59 und5 und9 (RdT.tree (by first | (with_reducible repeat (first | exact List.Mem.head _ | apply List.Mem.tail)); done | (repeat (first | exact List.Mem.head _ | apply List.Mem.tail)))) ?_
      refine L_assign rfl rfl ?_
      refine L_nil ?_
      obtain rfl := Option.some.inj hp
      refine W_ret ?_
      refine res1 rfl (ResOK.tmp rfl) ⟨rfl, rfl⟩ (MSub.nil _)

noncomputable def i_fourBytes (a0 : ByteArray) : Option Int :=
  Option.bind (sidx a0 0) (fun y1 => Option.bind (sidx a0 1) (fun y2 => Option.bind (sidx a0 2) (fun y3 => Option.bind (sidx a0 3) (fun y4 => some (bits .or .u32 (bits .or .u32 (bits .or .u32 (IntKind.wrap .u32 (IntKind.wrap .u32 y1 * 2 ^ (24 : Int).toNat)) (IntKind.wrap .u32 (IntKind.wrap .u32 y2 * 2 ^ (16 : Int).toNat))) (IntKind.wrap .u32 (IntKind.wrap .u32 y3 * 2 ^ (8 : Int).toNat))) (IntKind.wrap .u32 y4))))))

theorem i_fourBytes_walk (w : World) (a0 : ByteArray)  (r : Int) (hp : i_fourBytes a0 = some r) : Spec Tryd.prog 147 [.string a0].toArray w [] (IsV (.int .u32 r)) := by
  refine Spec.intro Tryd.func147 rfl Tryd.ntmps147 rfl ?_
  unfold i_fourBytes at hp
  try dsimp only [dat_pair, dat_int, dat_bool, dat_str, dat_ar] at hp
  refine W_seq ?_
  refine W_region ?_
  refine L_assign rfl rfl ?_
  refine L_nil ?_
  refine W_seq ?_
  have ho := hp; clear hp; obtain ⟨y1, hy1, hp⟩ := bind_any ho; clear ho
  have ho := hp; clear hp; obtain ⟨y2, hy2, hp⟩ := bind_any ho; clear ho
  have ho := hp; clear hp; obtain ⟨y3, hy3, hp⟩ := bind_any ho; clear ho
  have ho := hp; clear hp; obtain ⟨y4, hy4, hp⟩ := bind_any ho; clear ho
  refine W_D0 [2] mix (by kernel_rfl) rfl ?_
  refine D_move GC.none (OpV.t rfl) ?_
  refine D_idxS GC.none (OpV.t rfl) OpV.c str9 (fun hg => hy1) ?_
  refine D_convInt GC.none (OpV.t rfl) und153 (by rw [und5]; rfl) ?_
  refine D_bin GC.none (OpV.t rfl) OpV.c (fun hg => (bv_shl (by decide) (by decide))) ?_
  refine D_move GC.none (OpV.t rfl) ?_
  refine D_idxS GC.none (OpV.t rfl) OpV.c str9 (fun hg => hy2) ?_
  refine D_convInt GC.none (OpV.t rfl) und153 (by rw [und5]; rfl) ?_
  refine D_bin GC.none (OpV.t rfl) OpV.c (fun hg => (bv_shl (by decide) (by decide))) ?_
  refine D_bin GC.none (OpV.t rfl) (OpV.t rfl) (fun hg => bv_or) ?_
  refine D_move GC.none (OpV.t rfl) ?_
  refine D_idxS GC.none (OpV.t rfl) OpV.c str9 (fun hg => hy3) ?_
  refine D_convInt GC.none (OpV.t rfl) und153 (by rw [und5]; rfl) ?_
  refine D_bin GC.none (OpV.t rfl) OpV.c (fun hg => (bv_shl (by decide) (by decide))) ?_
  refine D_bin GC.none (OpV.t rfl) (OpV.t rfl) (fun hg => bv_or) ?_
  refine D_move GC.none (OpV.t rfl) ?_
  refine D_idxS GC.none (OpV.t rfl) OpV.c str9 (fun hg => hy4) ?_
  refine D_convInt GC.none (OpV.t rfl) und153 (by rw [und5]; rfl) ?_
  refine D_bin GC.none (OpV.t rfl) (OpV.t rfl) (fun hg => bv_or) ?_
  refine D_assign GC.none (OpV.t rfl) ?_
  refine DV_nil ?_
  refine Give_is rfl rfl ?_
  refine Give_drop rfl ?_
  refine Give_drop rfl ?_
  refine Give_drop rfl ?_
  refine Give_drop rfl ?_
  refine Give_drop rfl ?_
  refine Give_drop rfl ?_
  refine Give_drop rfl ?_
  refine Give_drop rfl ?_
  refine Give_drop rfl ?_
  refine Give_drop rfl ?_
  refine Give_drop rfl ?_
  refine Give_drop rfl ?_
  refine Give_drop rfl ?_
  refine Give_drop rfl ?_
  refine Give_drop rfl ?_
  refine Give_drop rfl ?_
  refine Give_drop rfl ?_
  refine Give_drop rfl ?_
  refine Give_nil ?_
  obtain rfl := Option.some.inj hp
  refine W_ret ?_
  refine res1 rfl (ResOK.tmp rfl) ⟨rfl, rfl⟩ (MSub.nil _)

noncomputable def x_bits_RotateLeft32 (a0 : Int) (a1 : Int) : Option Int :=
  Option.bind (shlP .u32 a0 (bits .and .u64 (IntKind.wrap .u64 a1) 31)) (fun y1 => Option.bind (shrP .u32 a0 (IntKind.wrap .u64 (32 - bits .and .u64 (IntKind.wrap .u64 a1) 31))) (fun y2 => some (bits .or .u32 y1 y2)))

theorem x_bits_RotateLeft32_walk (w : World) (a0 : Int) (a1 : Int)  (r : Int) (hp : x_bits_RotateLeft32 a0 a1 = some r) : Spec Tryd.prog 148 [.int .u32 a0, .int .i64 a1].toArray w [] (IsV (.int .u32 r)) := by
  refine Spec.intro Tryd.func148 rfl Tryd.ntmps148 rfl ?_
  unfold x_bits_RotateLeft32 at hp
  try dsimp only [dat_pair, dat_int, dat_bool, dat_str, dat_ar] at hp
  refine W_seq ?_
  refine W_region ?_
  refine L_assign rfl rfl ?_
  refine L_nil ?_
  refine W_seq ?_
  refine W_region ?_
  refine L_move rfl rfl ?_
  refine L_convInt rfl rfl und128 (by rw [und3]; rfl) ?_
  refine L_binV rfl rfl rfl bv_and ?_
  refine L_assign rfl rfl ?_
  refine L_nil ?_
  refine W_seq ?_
  refine W_region ?_
  refine L_move rfl rfl ?_
  refine L_move rfl rfl ?_
  have ho := hp; clear hp; obtain ⟨y1, hy1, hp⟩ := bind_any ho; clear ho
  refine L_binV rfl rfl rfl (bv_shlP hy1) ?_
  refine L_move rfl rfl ?_
  refine L_move rfl rfl ?_
  refine L_binV rfl rfl rfl bv_sub ?_
  have ho := hp; clear hp; obtain ⟨y2, hy2, hp⟩ := bind_any ho; clear ho
  refine L_binV rfl rfl rfl (bv_shrP hy2) ?_
  refine L_binV rfl rfl rfl bv_or ?_
  refine L_assign rfl rfl ?_
  refine L_nil ?_
  obtain rfl := Option.some.inj hp
  refine W_ret ?_
  refine res1 rfl (ResOK.tmp rfl) ⟨rfl, rfl⟩ (MSub.nil _)

noncomputable def i_shaBlock (a0 : List Int) (a1 : ByteArray) : Option (List Int) :=
  whileP (fun s1 : Int × (List Int) => cond (decide (s1.1 < 16)) (Option.bind (sslP a1 (IntKind.wrap .i64 (4 * s1.1)) (a1.size : Int)) (fun y3 => Option.bind (i_fourBytes y3) (fun y4 => Option.bind (ack 64 s1.1) (fun y5 => Option.bind (aset s1.2 y5 y4) (fun y6 => some (.inl ((IntKind.wrap .i64 (s1.1 + 1), y6)))))))) (Option.map .inr (whileP (fun s8 : Int × (List Int) => cond (decide (s8.1 < 64)) (Option.bind (ack 64 (IntKind.wrap .i64 (s8.1 - 15))) (fun y10 => Option.bind (s8.2[y10]?) (fun y11 => Option.bind (ack 64 (IntKind.wrap .i64 (s8.1 - 2))) (fun y12 => Option.bind (s8.2[y12]?) (fun y13 => Option.bind (x_bits_RotateLeft32 y11 (-7)) (fun y14 => Option.bind (x_bits_RotateLeft32 y11 (-18)) (fun y15 => Option.bind (x_bits_RotateLeft32 y13 (-17)) (fun y16 => Option.bind (x_bits_RotateLeft32 y13 (-19)) (fun y17 => Option.bind (ack 64 (IntKind.wrap .i64 (s8.1 - 16))) (fun y18 => Option.bind (s8.2[y18]?) (fun y19 => Option.bind (ack 64 (IntKind.wrap .i64 (s8.1 - 7))) (fun y20 => Option.bind (s8.2[y20]?) (fun y21 => Option.bind (ack 64 s8.1) (fun y22 => Option.bind (aset s8.2 y22 (IntKind.wrap .u32 (IntKind.wrap .u32 (IntKind.wrap .u32 (y19 + bits .xor .u32 (bits .xor .u32 y14 y15) (y11 / 2 ^ (3 : Int).toNat)) + y21) + bits .xor .u32 (bits .xor .u32 y16 y17) (y13 / 2 ^ (10 : Int).toNat)))) (fun y23 => some (.inl ((IntKind.wrap .i64 (s8.1 + 1), y23)))))))))))))))))) (Option.map .inr (Option.bind (alen 8 a0) (fun y25 => Option.bind (alen 8 (List.replicate 8 (0 : Int))) (fun y26 => Option.bind (alen 8 a0) (fun y27 => whileP (fun s28 : Int × (List Int) => cond (decide (s28.1 < 64)) (Option.bind (ack 8 0) (fun y30 => Option.bind (s28.2[y30]?) (fun y31 => Option.bind (ack 8 4) (fun y32 => Option.bind (s28.2[y32]?) (fun y33 => Option.bind (x_bits_RotateLeft32 y33 (-6)) (fun y34 => Option.bind (x_bits_RotateLeft32 y33 (-11)) (fun y35 => Option.bind (x_bits_RotateLeft32 y33 (-25)) (fun y36 => Option.bind (ack 8 5) (fun y37 => Option.bind (s28.2[y37]?) (fun y38 => Option.bind (ack 8 6) (fun y39 => Option.bind (s28.2[y39]?) (fun y40 => Option.bind (ack 8 7) (fun y41 => Option.bind (s28.2[y41]?) (fun y42 => Option.bind (ack 64 s28.1) (fun y43 => Option.bind (gA0[y43]?) (fun y44 => Option.bind (ack 64 s28.1) (fun y45 => Option.bind (s8.2[y45]?) (fun y46 => Option.bind (x_bits_RotateLeft32 y31 (-2)) (fun y47 => Option.bind (x_bits_RotateLeft32 y31 (-13)) (fun y48 => Option.bind (x_bits_RotateLeft32 y31 (-22)) (fun y49 => Option.bind (ack 8 1) (fun y50 => Option.bind (s28.2[y50]?) (fun y51 => Option.bind (ack 8 2) (fun y52 => Option.bind (s28.2[y52]?) (fun y53 => Option.bind (ack 8 1) (fun y54 => Option.bind (s28.2[y54]?) (fun y55 => Option.bind (ack 8 2) (fun y56 => Option.bind (s28.2[y56]?) (fun y57 => Option.bind (ack 8 0) (fun y58 => Option.bind (s28.2[y58]?) (fun y59 => Option.bind (ack 8 1) (fun y60 => Option.bind (s28.2[y60]?) (fun y61 => Option.bind (ack 8 2) (fun y62 => Option.bind (s28.2[y62]?) (fun y63 => Option.bind (ack 8 3) (fun y64 => Option.bind (s28.2[y64]?) (fun y65 => Option.bind (ack 8 4) (fun y66 => Option.bind (s28.2[y66]?) (fun y67 => Option.bind (ack 8 5) (fun y68 => Option.bind (s28.2[y68]?) (fun y69 => Option.bind (ack 8 6) (fun y70 => Option.bind (s28.2[y70]?) (fun y71 => Option.bind (alen 8 s28.2) (fun y72 => Option.bind (alen 8 ([IntKind.wrap .u32 (IntKind.wrap .u32 (IntKind.wrap .u32 (IntKind.wrap .u32 (IntKind.wrap .u32 (IntKind.wrap .u32 (y42 + bits .xor .u32 (bits .xor .u32 y34 y35) y36) + bits .xor .u32 (bits .and .u32 y33 y38) (bits .and .u32 (bits .xor .u32 (if IntKind.signed .u32 then -1 else IntKind.max .u32) y33) y40)) + y44) + y46) + bits .xor .u32 (bits .xor .u32 y47 y48) y49) + bits .xor .u32 (bits .xor .u32 (bits .and .u32 y31 y51) (bits .and .u32 y31 y53)) (bits .and .u32 y55 y57)), y59, y61, y63, IntKind.wrap .u32 (y65 + IntKind.wrap .u32 (IntKind.wrap .u32 (IntKind.wrap .u32 (IntKind.wrap .u32 (y42 + bits .xor .u32 (bits .xor .u32 y34 y35) y36) + bits .xor .u32 (bits .and .u32 y33 y38) (bits .and .u32 (bits .xor .u32 (if IntKind.signed .u32 then -1 else IntKind.max .u32) y33) y40)) + y44) + y46)), y67, y69, y71] : List Int)) (fun y73 => some (.inl ((IntKind.wrap .i64 (s28.1 + 1), ([IntKind.wrap .u32 (IntKind.wrap .u32 (IntKind.wrap .u32 (IntKind.wrap .u32 (IntKind.wrap .u32 (IntKind.wrap .u32 (y42 + bits .xor .u32 (bits .xor .u32 y34 y35) y36) + bits .xor .u32 (bits .and .u32 y33 y38) (bits .and .u32 (bits .xor .u32 (if IntKind.signed .u32 then -1 else IntKind.max .u32) y33) y40)) + y44) + y46) + bits .xor .u32 (bits .xor .u32 y47 y48) y49) + bits .xor .u32 (bits .xor .u32 (bits .and .u32 y31 y51) (bits .and .u32 y31 y53)) (bits .and .u32 y55 y57)), y59, y61, y63, IntKind.wrap .u32 (y65 + IntKind.wrap .u32 (IntKind.wrap .u32 (IntKind.wrap .u32 (IntKind.wrap .u32 (y42 + bits .xor .u32 (bits .xor .u32 y34 y35) y36) + bits .xor .u32 (bits .and .u32 y33 y38) (bits .and .u32 (bits .xor .u32 (if IntKind.signed .u32 then -1 else IntKind.max .u32) y33) y40)) + y44) + y46)), y67, y69, y71] : List Int))))))))))))))))))))))))))))))))))))))))))))))))) (Option.map .inr (whileP (fun s75 : Int × (List Int) => cond (decide (s75.1 < 8)) (Option.bind (ack 8 s75.1) (fun y77 => Option.bind (s75.2[y77]?) (fun y78 => Option.bind (ack 8 s75.1) (fun y79 => Option.bind (s28.2[y79]?) (fun y80 => Option.bind (ack 8 s75.1) (fun y81 => Option.bind (aset s75.2 y81 (IntKind.wrap .u32 (y78 + y80))) (fun y82 => some (.inl ((IntKind.wrap .i64 (s75.1 + 1), y82)))))))))) (Option.map .inr (Option.bind (alen 8 s75.2) (fun y84 => Option.bind (alen 8 (List.replicate 8 (0 : Int))) (fun y85 => Option.bind (alen 8 s75.2) (fun y86 => Option.bind (alen 8 s75.2) (fun y87 => some s75.2))))))) (0, a0)))) (0, a0))))))) (16, s1.2)))) (0, (List.replicate 64 (0 : Int)))

set_option maxHeartbeats 8000000 in
theorem i_shaBlock_walk (w : World) (a0 : AR) (a1 : ByteArray) (hg0 : GT.rd w [] gV0) (r : (List Int)) (hp : i_shaBlock (GT.dat a0) a1 = some r) : Spec Tryd.prog 126 [.agg (aC .u32 (AR.l a0)).toArray, .string a1].toArray w [] (IsV (.agg (aC .u32 r).toArray)) := by
  refine Spec.intro Tryd.func126 rfl Tryd.ntmps126 rfl ?_
  unfold i_shaBlock at hp
  try dsimp only [dat_pair, dat_int, dat_bool, dat_str, dat_ar] at hp
  refine W_seq ?_
  refine W_region ?_
  refine L_boxAr (A := (AR.l a0)) rfl rfl (fun bk2 => ?_)
  refine L_alloc rfl zar154 (fun bk4 => ?_)
  refine L_nil ?_
  refine W_seq ?_
  refine W_region ?_
  refine L_alloc rfl zar178 (fun bk5 => ?_)
  refine L_nil ?_
  refine W_seq ?_
  refine W_seq ?_
  refine W_region ?_
  refine L_move rfl rfl ?_
  refine L_nil ?_
  refine W_block ?_
  refine W_while (σ := Int × AR) GT.dat (fun ((v1_0, v1_1) : Int × AR) => [(22, .int .i64 v1_0)]) (fun ((v1_0, v1_1) : Int × AR) => [blk bk5 (aC .u32 (AR.l v1_1)) 178]) [(1, _), (2, _), (4, _), (5, _)] [blk bk2 _ _, blk bk4 _ _] (0, (AR.mk (List.replicate 64 (0 : Int)))) hp (Sub.cons rfl (Sub.cons rfl (Sub.cons rfl (Sub.cons rfl (Sub.cons rfl (Sub.nil _)))))) (MSub.cons (by first | (with_reducible repeat (first | exact Pick.here _ | apply Pick.there)); done | (repeat (first | exact Pick.here _ | apply Pick.there))) (MSub.cons (by first | (with_reducible repeat (first | exact Pick.here _ | apply Pick.there)); done | (repeat (first | exact Pick.here _ | apply Pick.there))) (MSub.cons (by first | (with_reducible repeat (first | exact Pick.here _ | apply Pick.there)); done | (repeat (first | exact Pick.here _ | apply Pick.there))) (MSub.nil _)))) ?_
  clear hp
  rintro ⟨v1_0, v1_1⟩ x1 hp hx1
  try dsimp only [dat_pair, dat_int, dat_bool, dat_str, dat_ar] at hp
  refine W_weaken (l' := [(1, _), (2, _), (4, _), (5, _), (22, _)]) (Sub.cons rfl (Sub.cons rfl (Sub.cons rfl (Sub.cons rfl (Sub.cons rfl (Sub.nil _)))))) (M' := [_, _, _]) (MSub.cons (by first | (with_reducible repeat (first | exact Pick.here _ | apply Pick.there)); done | (repeat (first | exact Pick.here _ | apply Pick.there))) (MSub.cons (by first | (with_reducible repeat (first | exact Pick.here _ | apply Pick.there)); done | (repeat (first | exact Pick.here _ | apply Pick.there))) (MSub.cons (by first | (with_reducible repeat (first | exact Pick.here _ | apply Pick.there)); done | (repeat (first | exact Pick.here _ | apply Pick.there))) (MSub.nil _)))) ?_
  refine W_seq ?_
  refine W_region ?_
  refine L_binV rfl rfl rfl bv_lss ?_
  refine L_nil ?_
  refine W_seq ?_
  refine W_weaken (l' := [(1, _), (2, _), (4, _), (5, _), (22, _), (23, _)]) (Sub.cons rfl (Sub.cons rfl (Sub.cons rfl (Sub.cons rfl (Sub.cons rfl (Sub.cons rfl (Sub.nil _))))))) (MSub.refl _) ?_
  refine W_cond rfl (fun hc2 => ?_) (fun hc2 => ?_)
  · skip
    replace hp := cond_t hc2 hp
    refine W_skip ?_
    refine W_seq ?_
    refine W_block ?_
    refine W_seq ?_
    refine W_region ?_
    refine L_move rfl rfl ?_
    refine L_assign rfl rfl ?_
    refine L_nil ?_
    refine W_region ?_
    refine L_move rfl rfl ?_
    refine L_move rfl rfl ?_
    refine L_move rfl rfl ?_
    refine L_binV rfl rfl rfl bv_mul ?_
    have ho := hp; clear hp; obtain ⟨y3, hy3, hp⟩ := bind_any ho; clear ho
    refine L_ssl rfl rfl rfl rfl str9 hy3 ?_
    have ho := hp; clear hp; obtain ⟨y4, hy4, hp⟩ := bind_any ho; clear ho
    refine L_callX rfl fn147 rfl (by exact fun w hw => i_fourBytes_walk w y3  _ hy4) ?_
    have ho := hp; clear hp; obtain ⟨y5, hy5, hp⟩ := bind_any ho; clear ho
    refine L_idxAr rfl rfl rfl ar178 hy5 ?_
    have ho := hp; clear hp; obtain ⟨y6, hy6, hp⟩ := bind_any ho; clear ho
    refine L_stAr (A := (AR.l v1_1)) rfl rfl (by first | (with_reducible repeat (first | exact Pick.here _ | apply Pick.there)); done | (repeat (first | exact Pick.here _ | apply Pick.there))) one153 hy6 ?_
    refine L_nil ?_
    refine W_region ?_
    refine L_binV rfl rfl rfl bv_add ?_
    refine L_move rfl rfl ?_
    refine L_nil ?_
    exact ⟨(IntKind.wrap .i64 (v1_0 + 1), (AR.mk y6)), (Sub.cons rfl (Sub.cons rfl (Sub.cons rfl (Sub.cons rfl (Sub.cons rfl (Sub.nil _)))))), (Arr.sub (MSub.cons (by first | (with_reducible repeat (first | exact Pick.here _ | apply Pick.there)); done | (repeat (first | exact Pick.here _ | apply Pick.there))) (MSub.cons (by first | (with_reducible repeat (first | exact Pick.here _ | apply Pick.there)); done | (repeat (first | exact Pick.here _ | apply Pick.there))) (MSub.cons (by first | (with_reducible repeat (first | exact Pick.here _ | apply Pick.there)); done | (repeat (first | exact Pick.here _ | apply Pick.there))) (MSub.nil _))))), some_eq hp⟩
  · skip
    replace hp := cond_f hc2 hp
    refine W_exit ?_
    have ho := hp; clear hp; obtain ⟨a7, hp, hx_a7⟩ := map_any ho; clear ho
    obtain rfl := hx1 _ hx_a7
    refine W_seq ?_
    refine W_seq ?_
    refine W_region ?_
    refine L_assign rfl rfl ?_
    refine L_nil ?_
    refine W_block ?_
    refine W_while (σ := Int × AR) GT.dat (fun ((v8_0, v8_1) : Int × AR) => [(7, .int .i64 v8_0)]) (fun ((v8_0, v8_1) : Int × AR) => [blk bk5 (aC .u32 (AR.l v8_1)) 178]) [(2, _), (4, _), (5, _)] [blk bk2 _ _, blk bk4 _ _] (16, v1_1) hp (Sub.cons rfl (Sub.cons rfl (Sub.cons rfl (Sub.cons rfl (Sub.nil _))))) (MSub.cons (by first | (with_reducible repeat (first | exact Pick.here _ | apply Pick.there)); done | (repeat (first | exact Pick.here _ | apply Pick.there))) (MSub.cons (by first | (with_reducible repeat (first | exact Pick.here _ | apply Pick.there)); done | (repeat (first | exact Pick.here _ | apply Pick.there))) (MSub.cons (by first | (with_reducible repeat (first | exact Pick.here _ | apply Pick.there)); done | (repeat (first | exact Pick.here _ | apply Pick.there))) (MSub.nil _)))) ?_
    clear hp
    rintro ⟨v8_0, v8_1⟩ x8 hp hx8
    try dsimp only [dat_pair, dat_int, dat_bool, dat_str, dat_ar] at hp
    refine W_weaken (l' := [(2, _), (4, _), (5, _), (7, _)]) (Sub.cons rfl (Sub.cons rfl (Sub.cons rfl (Sub.cons rfl (Sub.nil _))))) (M' := [_, _, _]) (MSub.cons (by first | (with_reducible repeat (first | exact Pick.here _ | apply Pick.there)); done | (repeat (first | exact Pick.here _ | apply Pick.there))) (MSub.cons (by first | (with_reducible repeat (first | exact Pick.here _ | apply Pick.there)); done | (repeat (first | exact Pick.here _ | apply Pick.there))) (MSub.cons (by first | (with_reducible repeat (first | exact Pick.here _ | apply Pick.there)); done | (repeat (first | exact Pick.here _ | apply Pick.there))) (MSub.nil _)))) ?_
    refine W_seq ?_
    refine W_seq ?_
    refine W_region ?_
    refine L_move rfl rfl ?_
    refine L_binV rfl rfl rfl bv_lss ?_
    refine L_nil ?_
    refine W_weaken (l' := [(2, _), (4, _), (5, _), (7, _), (34, _)]) (Sub.cons rfl (Sub.cons rfl (Sub.cons rfl (Sub.cons rfl (Sub.cons rfl (Sub.nil _)))))) (MSub.refl _) ?_
    refine W_cond rfl (fun hc9 => ?_) (fun hc9 => ?_)
    · skip
      replace hp := cond_t hc9 hp
      refine W_skip ?_
      refine W_seq ?_
      refine W_block ?_
      refine W_seq ?_
      have ho := hp; clear hp; obtain ⟨y10, hy10, hp⟩ := bind_any ho; clear ho
      have ho := hp; clear hp; obtain ⟨y11, hy11, hp⟩ := bind_any ho; clear ho
      have ho := hp; clear hp; obtain ⟨y12, hy12, hp⟩ := bind_any ho; clear ho
      have ho := hp; clear hp; obtain ⟨y13, hy13, hp⟩ := bind_any ho; clear ho
      refine W_D0 [8, 9] mix (by kernel_rfl) rfl ?_
      refine D_move GC.none (OpV.t rfl) ?_
      refine D_bin GC.none (OpV.t rfl) OpV.c (fun hg => bv_sub) ?_
      refine D_idxAr GC.none (OpV.t rfl) (OpV.t rfl) ar178 (fun hg => hy10) ?_
      refine D_ldAr (A := (AR.l v8_1)) GC.none (OpV.t rfl) (RdC.blk (by first | (with_reducible repeat (first | exact List.Mem.head _ | apply List.Mem.tail)); done | (repeat (first | exact List.Mem.head _ | apply List.Mem.tail)))) one153 (fun hg => hy11) ?_
      refine D_move GC.none (OpV.t rfl) ?_
      refine D_bin GC.none (OpV.t rfl) OpV.c (fun hg => bv_sub) ?_
      refine D_idxAr GC.none (OpV.t rfl) (OpV.t rfl) ar178 (fun hg => hy12) ?_
      refine D_ldAr (A := (AR.l v8_1)) GC.none (OpV.t rfl) (RdC.blk (by first | (with_reducible repeat (first | exact List.Mem.head _ | apply List.Mem.tail)); done | (repeat (first | exact List.Mem.head _ | apply List.Mem.tail)))) one153 (fun hg => hy13) ?_
      refine D_assign GC.none (OpV.t rfl) ?_
      refine D_assign GC.none (OpV.t rfl) ?_
      refine DV_nil ?_
      refine Give_is rfl rfl ?_
      refine Give_is rfl rfl ?_
      refine Give_drop rfl ?_
      refine Give_drop rfl ?_
      refine Give_drop rfl ?_
      refine Give_drop rfl ?_
      refine Give_drop rfl ?_
      refine Give_drop rfl ?_
      refine Give_drop rfl ?_
      refine Give_drop rfl ?_
      refine Give_nil ?_
      refine W_seq ?_
      refine W_region ?_
      refine L_move rfl rfl ?_
      have ho := hp; clear hp; obtain ⟨y14, hy14, hp⟩ := bind_any ho; clear ho
      refine L_callX rfl fn148 rfl (by exact fun w hw => x_bits_RotateLeft32_walk w y11 (-7)  _ hy14) ?_
      refine L_move rfl rfl ?_
      have ho := hp; clear hp; obtain ⟨y15, hy15, hp⟩ := bind_any ho; clear ho
      refine L_callX rfl fn148 rfl (by exact fun w hw => x_bits_RotateLeft32_walk w y11 (-18)  _ hy15) ?_
      refine L_binV rfl rfl rfl bv_xor ?_
      refine L_move rfl rfl ?_
      refine L_binV rfl rfl rfl (bv_shr (by decide) (by decide)) ?_
      refine L_binV rfl rfl rfl bv_xor ?_
      refine L_assign rfl rfl ?_
      refine L_nil ?_
      refine W_seq ?_
      refine W_region ?_
      refine L_move rfl rfl ?_
      have ho := hp; clear hp; obtain ⟨y16, hy16, hp⟩ := bind_any ho; clear ho
      refine L_callX rfl fn148 rfl (by exact fun w hw => x_bits_RotateLeft32_walk w y13 (-17)  _ hy16) ?_
      refine L_move rfl rfl ?_
      have ho := hp; clear hp; obtain ⟨y17, hy17, hp⟩ := bind_any ho; clear ho
      refine L_callX rfl fn148 rfl (by exact fun w hw => x_bits_RotateLeft32_walk w y13 (-19)  _ hy17) ?_
      refine L_binV rfl rfl rfl bv_xor ?_
      refine L_move rfl rfl ?_
      refine L_binV rfl rfl rfl (bv_shr (by decide) (by decide)) ?_
      refine L_binV rfl rfl rfl bv_xor ?_
      refine L_assign rfl rfl ?_
      refine L_nil ?_
      have ho := hp; clear hp; obtain ⟨y18, hy18, hp⟩ := bind_any ho; clear ho
      have ho := hp; clear hp; obtain ⟨y19, hy19, hp⟩ := bind_any ho; clear ho
      have ho := hp; clear hp; obtain ⟨y20, hy20, hp⟩ := bind_any ho; clear ho
      have ho := hp; clear hp; obtain ⟨y21, hy21, hp⟩ := bind_any ho; clear ho
      refine W_DS (pre := [_, _, _, _, _, _, _, _, _, _, _, _, _, _]) (suf := [_, _]) [61, 74] [] _ (perm_nil_left _) mix (by kernel_rfl) (by kernel_rfl) rfl ?_
      refine D_move GC.none (OpV.t rfl) ?_
      refine D_move GC.none (OpV.t rfl) ?_
      refine D_bin GC.none (OpV.t rfl) OpV.c (fun hg => bv_sub) ?_
      refine D_idxAr GC.none (OpV.t rfl) (OpV.t rfl) ar178 (fun hg => hy18) ?_
      refine D_ldAr (A := (AR.l v8_1)) GC.none (OpV.t rfl) (RdC.blk (by first | (with_reducible repeat (first | exact List.Mem.head _ | apply List.Mem.tail)); done | (repeat (first | exact List.Mem.head _ | apply List.Mem.tail)))) one153 (fun hg => hy19) ?_
      refine D_move GC.none (OpV.t rfl) ?_
      refine D_bin GC.none (OpV.t rfl) (OpV.t rfl) (fun hg => bv_add) ?_
      refine D_move GC.none (OpV.t rfl) ?_
      refine D_bin GC.none (OpV.t rfl) OpV.c (fun hg => bv_sub) ?_
      refine D_idxAr GC.none (OpV.t rfl) (OpV.t rfl) ar178 (fun hg => hy20) ?_
      refine D_ldAr (A := (AR.l v8_1)) GC.none (OpV.t rfl) (RdC.blk (by first | (with_reducible repeat (first | exact List.Mem.head _ | apply List.Mem.tail)); done | (repeat (first | exact List.Mem.head _ | apply List.Mem.tail)))) one153 (fun hg => hy21) ?_
      refine D_bin GC.none (OpV.t rfl) (OpV.t rfl) (fun hg => bv_add) ?_
      refine D_move GC.none (OpV.t rfl) ?_
      refine D_bin GC.none (OpV.t rfl) (OpV.t rfl) (fun hg => bv_add) ?_
      refine DV_nil ?_
      refine Give_is rfl rfl ?_
      refine Give_drop rfl ?_
      refine Give_drop rfl ?_
      refine Give_drop rfl ?_
      refine Give_drop rfl ?_
      refine Give_drop rfl ?_
      refine Give_drop rfl ?_
      refine Give_drop rfl ?_
      refine Give_drop rfl ?_
      refine Give_drop rfl ?_
      refine Give_drop rfl ?_
      refine Give_drop rfl ?_
      refine Give_drop rfl ?_
      refine Give_is rfl rfl ?_
      refine Give_nil ?_
      have ho := hp; clear hp; obtain ⟨y22, hy22, hp⟩ := bind_any ho; clear ho
      refine L_idxAr rfl rfl rfl ar178 hy22 ?_
      have ho := hp; clear hp; obtain ⟨y23, hy23, hp⟩ := bind_any ho; clear ho
      refine L_stAr (A := (AR.l v8_1)) rfl rfl (by first | (with_reducible repeat (first | exact Pick.here _ | apply Pick.there)); done | (repeat (first | exact Pick.here _ | apply Pick.there))) one153 hy23 ?_
      refine L_nil ?_
      refine W_region ?_
      refine L_move rfl rfl ?_
      refine L_binV rfl rfl rfl bv_add ?_
      refine L_assign rfl rfl ?_
      refine L_nil ?_
      exact ⟨(IntKind.wrap .i64 (v8_0 + 1), (AR.mk y23)), (Sub.cons rfl (Sub.cons rfl (Sub.cons rfl (Sub.cons rfl (Sub.nil _))))), (Arr.sub (MSub.cons (by first | (with_reducible repeat (first | exact Pick.here _ | apply Pick.there)); done | (repeat (first | exact Pick.here _ | apply Pick.there))) (MSub.cons (by first | (with_reducible repeat (first | exact Pick.here _ | apply Pick.there)); done | (repeat (first | exact Pick.here _ | apply Pick.there))) (MSub.cons (by first | (with_reducible repeat (first | exact Pick.here _ | apply Pick.there)); done | (repeat (first | exact Pick.here _ | apply Pick.there))) (MSub.nil _))))), some_eq hp⟩
    · skip
      replace hp := cond_f hc9 hp
      refine W_exit ?_
      have ho := hp; clear hp; obtain ⟨a24, hp, hx_a24⟩ := map_any ho; clear ho
      obtain rfl := hx8 _ hx_a24
      refine W_seq ?_
      refine W_region ?_
      have ho := hp; clear hp; obtain ⟨y25, hy25, hp⟩ := bind_any ho; clear ho
      refine L_ldArW (A := (AR.l a0)) rfl rfl (RdC.blk (by first | (with_reducible repeat (first | exact List.Mem.head _ | apply List.Mem.tail)); done | (repeat (first | exact List.Mem.head _ | apply List.Mem.tail)))) agg154 hy25 ?_
      refine L_alloc rfl zar154 (fun bk12 => ?_)
      have ho := hp; clear hp; obtain ⟨y26, hy26, hp⟩ := bind_any ho; clear ho
      have ho := hp; clear hp; obtain ⟨y27, hy27, hp⟩ := bind_any ho; clear ho
      refine L_stArW (A := (List.replicate 8 (0 : Int))) (B := (AR.l a0)) rfl rfl (by first | (with_reducible repeat (first | exact Pick.here _ | apply Pick.there)); done | (repeat (first | exact Pick.here _ | apply Pick.there))) agg154 hy26 hy27 ?_
      refine L_nil ?_
      refine W_seq ?_
      refine W_seq ?_
      refine W_region ?_
      refine L_move rfl rfl ?_
      refine L_nil ?_
      refine W_block ?_
      refine W_while (σ := Int × AR) GT.dat (fun ((v28_0, v28_1) : Int × AR) => [(77, .int .i64 v28_0)]) (fun ((v28_0, v28_1) : Int × AR) => [blk bk12 (aC .u32 (AR.l v28_1)) 154]) [(2, _), (4, _), (5, _), (12, _)] [blk bk2 _ _, blk bk4 _ _, blk bk5 _ _] (0, a0) hp (Sub.cons rfl (Sub.cons rfl (Sub.cons rfl (Sub.cons rfl (Sub.cons rfl (Sub.nil _)))))) (MSub.cons (by first | (with_reducible repeat (first | exact Pick.here _ | apply Pick.there)); done | (repeat (first | exact Pick.here _ | apply Pick.there))) (MSub.cons (by first | (with_reducible repeat (first | exact Pick.here _ | apply Pick.there)); done | (repeat (first | exact Pick.here _ | apply Pick.there))) (MSub.cons (by first | (with_reducible repeat (first | exact Pick.here _ | apply Pick.there)); done | (repeat (first | exact Pick.here _ | apply Pick.there))) (MSub.cons (by first | (with_reducible repeat (first | exact Pick.here _ | apply Pick.there)); done | (repeat (first | exact Pick.here _ | apply Pick.there))) (MSub.nil _))))) ?_
      clear hp
      rintro ⟨v28_0, v28_1⟩ x28 hp hx28
      try dsimp only [dat_pair, dat_int, dat_bool, dat_str, dat_ar] at hp
      refine W_weaken (l' := [(2, _), (4, _), (5, _), (12, _), (77, _)]) (Sub.cons rfl (Sub.cons rfl (Sub.cons rfl (Sub.cons rfl (Sub.cons rfl (Sub.nil _)))))) (M' := [_, _, _, _]) (MSub.cons (by first | (with_reducible repeat (first | exact Pick.here _ | apply Pick.there)); done | (repeat (first | exact Pick.here _ | apply Pick.there))) (MSub.cons (by first | (with_reducible repeat (first | exact Pick.here _ | apply Pick.there)); done | (repeat (first | exact Pick.here _ | apply Pick.there))) (MSub.cons (by first | (with_reducible repeat (first | exact Pick.here _ | apply Pick.there)); done | (repeat (first | exact Pick.here _ | apply Pick.there))) (MSub.cons (by first | (with_reducible repeat (first | exact Pick.here _ | apply Pick.there)); done | (repeat (first | exact Pick.here _ | apply Pick.there))) (MSub.nil _))))) ?_
      refine W_seq ?_
      refine W_region ?_
      refine L_binV rfl rfl rfl bv_lss ?_
      refine L_nil ?_
      refine W_seq ?_
      refine W_weaken (l' := [(2, _), (4, _), (5, _), (12, _), (77, _), (78, _)]) (Sub.cons rfl (Sub.cons rfl (Sub.cons rfl (Sub.cons rfl (Sub.cons rfl (Sub.cons rfl (Sub.nil _))))))) (MSub.refl _) ?_
      refine W_cond rfl (fun hc29 => ?_) (fun hc29 => ?_)
      · skip
        replace hp := cond_t hc29 hp
        refine W_skip ?_
        refine W_seq ?_
        refine W_block ?_
        refine W_seq ?_
        refine W_region ?_
        refine L_move rfl rfl ?_
        refine L_assign rfl rfl ?_
        refine L_nil ?_
        refine W_seq ?_
        have ho := hp; clear hp; obtain ⟨y30, hy30, hp⟩ := bind_any ho; clear ho
        have ho := hp; clear hp; obtain ⟨y31, hy31, hp⟩ := bind_any ho; clear ho
        have ho := hp; clear hp; obtain ⟨y32, hy32, hp⟩ := bind_any ho; clear ho
        have ho := hp; clear hp; obtain ⟨y33, hy33, hp⟩ := bind_any ho; clear ho
        refine W_D0 [14, 15] mix (by kernel_rfl) rfl ?_
        refine D_idxAr GC.none (OpV.t rfl) OpV.c ar154 (fun hg => hy30) ?_
        refine D_ldAr (A := (AR.l v28_1)) GC.none (OpV.t rfl) (RdC.blk (by first | (with_reducible repeat (first | exact List.Mem.head _ | apply List.Mem.tail)); done | (repeat (first | exact List.Mem.head _ | apply List.Mem.tail)))) one153 (fun hg => hy31) ?_
        refine D_idxAr GC.none (OpV.t rfl) OpV.c ar154 (fun hg => hy32) ?_
        refine D_ldAr (A := (AR.l v28_1)) GC.none (OpV.t rfl) (RdC.blk (by first | (with_reducible repeat (first | exact List.Mem.head _ | apply List.Mem.tail)); done | (repeat (first | exact List.Mem.head _ | apply List.Mem.tail)))) one153 (fun hg => hy33) ?_
        refine D_assign GC.none (OpV.t rfl) ?_
        refine D_assign GC.none (OpV.t rfl) ?_
        refine DV_nil ?_
        refine Give_is rfl rfl ?_
        refine Give_is rfl rfl ?_
        refine Give_drop rfl ?_
        refine Give_drop rfl ?_
        refine Give_drop rfl ?_
        refine Give_drop rfl ?_
        refine Give_nil ?_
        refine W_seq ?_
        refine W_region ?_
        refine L_move rfl rfl ?_
        have ho := hp; clear hp; obtain ⟨y34, hy34, hp⟩ := bind_any ho; clear ho
        refine L_callX rfl fn148 rfl (by exact fun w hw => x_bits_RotateLeft32_walk w y33 (-6)  _ hy34) ?_
        refine L_move rfl rfl ?_
        have ho := hp; clear hp; obtain ⟨y35, hy35, hp⟩ := bind_any ho; clear ho
        refine L_callX rfl fn148 rfl (by exact fun w hw => x_bits_RotateLeft32_walk w y33 (-11)  _ hy35) ?_
        refine L_binV rfl rfl rfl bv_xor ?_
        refine L_move rfl rfl ?_
        have ho := hp; clear hp; obtain ⟨y36, hy36, hp⟩ := bind_any ho; clear ho
        refine L_callX rfl fn148 rfl (by exact fun w hw => x_bits_RotateLeft32_walk w y33 (-25)  _ hy36) ?_
        refine L_binV rfl rfl rfl bv_xor ?_
        refine L_assign rfl rfl ?_
        refine L_nil ?_
        refine W_seq ?_
        refine W_region ?_
        refine L_move rfl rfl ?_
        have ho := hp; clear hp; obtain ⟨y37, hy37, hp⟩ := bind_any ho; clear ho
        refine L_idxAr rfl rfl rfl ar154 hy37 ?_
        have ho := hp; clear hp; obtain ⟨y38, hy38, hp⟩ := bind_any ho; clear ho
        refine L_ldAr (A := (AR.l v28_1)) rfl rfl (RdC.blk (by first | (with_reducible repeat (first | exact List.Mem.head _ | apply List.Mem.tail)); done | (repeat (first | exact List.Mem.head _ | apply List.Mem.tail)))) one153 hy38 ?_
        refine L_binV rfl rfl rfl bv_and ?_
        refine L_move rfl rfl ?_
        refine L_xorU rfl rfl ?_
        have ho := hp; clear hp; obtain ⟨y39, hy39, hp⟩ := bind_any ho; clear ho
        refine L_idxAr rfl rfl rfl ar154 hy39 ?_
        have ho := hp; clear hp; obtain ⟨y40, hy40, hp⟩ := bind_any ho; clear ho
        refine L_ldAr (A := (AR.l v28_1)) rfl rfl (RdC.blk (by first | (with_reducible repeat (first | exact List.Mem.head _ | apply List.Mem.tail)); done | (repeat (first | exact List.Mem.head _ | apply List.Mem.tail)))) one153 hy40 ?_
        refine L_binV rfl rfl rfl bv_and ?_
        refine L_binV rfl rfl rfl bv_xor ?_
        refine L_assign rfl rfl ?_
        refine L_nil ?_
        refine W_seq ?_
        have ho := hp; clear hp; obtain ⟨y41, hy41, hp⟩ := bind_any ho; clear ho
        have ho := hp; clear hp; obtain ⟨y42, hy42, hp⟩ := bind_any ho; clear ho
        have ho := hp; clear hp; obtain ⟨y43, hy43, hp⟩ := bind_any ho; clear ho
        have ho := hp; clear hp; obtain ⟨y44, hy44, hp⟩ := bind_any ho; clear ho
        have ho := hp; clear hp; obtain ⟨y45, hy45, hp⟩ := bind_any ho; clear ho
        have ho := hp; clear hp; obtain ⟨y46, hy46, hp⟩ := bind_any ho; clear ho
        refine W_D0 [18] mix (by kernel_rfl) rfl ?_
        refine D_idxAr GC.none (OpV.t rfl) OpV.c ar154 (fun hg => hy41) ?_
        refine D_ldAr (A := (AR.l v28_1)) GC.none (OpV.t rfl) (RdC.blk (by first | (with_reducible repeat (first | exact List.Mem.head _ | apply List.Mem.tail)); done | (repeat (first | exact List.Mem.head _ | apply List.Mem.tail)))) one153 (fun hg => hy42) ?_
        refine D_move GC.none (OpV.t rfl) ?_
        refine D_bin GC.none (OpV.t rfl) (OpV.t rfl) (fun hg => bv_add) ?_
        refine D_move GC.none (OpV.t rfl) ?_
        refine D_bin GC.none (OpV.t rfl) (OpV.t rfl) (fun hg => bv_add) ?_
        refine D_move GC.none (OpV.t rfl) ?_
        refine D_idxAr GC.none OpV.g0 (OpV.t rfl) ar178 (fun hg => hy43) ?_
        refine D_ldAr (A := gA0) GC.none (OpV.t rfl) (RdC.ga (RdT.old hg0)) one153 (fun hg => hy44) ?_
        refine D_bin GC.none (OpV.t rfl) (OpV.t rfl) (fun hg => bv_add) ?_
        refine D_move GC.none (OpV.t rfl) ?_
        refine D_idxAr GC.none (OpV.t rfl) (OpV.t rfl) ar178 (fun hg => hy45) ?_
        refine D_ldAr (A := (AR.l v8_1)) GC.none (OpV.t rfl) (RdC.blk (by first | (with_reducible repeat (first | exact List.Mem.head _ | apply List.Mem.tail)); done | (repeat (first | exact List.Mem.head _ | apply List.Mem.tail)))) one153 (fun hg => hy46) ?_
        refine D_bin GC.none (OpV.t rfl) (OpV.t rfl) (fun hg => bv_add) ?_
        refine D_assign GC.none (OpV.t rfl) ?_
        refine DV_nil ?_
        refine Give_is rfl rfl ?_
        refine Give_drop rfl ?_
        refine Give_drop rfl ?_
        refine Give_drop rfl ?_
        refine Give_drop rfl ?_
        refine Give_drop rfl ?_
        refine Give_drop rfl ?_
        refine Give_drop rfl ?_
        refine Give_drop rfl ?_
        refine Give_drop rfl ?_
        refine Give_drop rfl ?_
        refine Give_drop rfl ?_
        refine Give_drop rfl ?_
        refine Give_drop rfl ?_
        refine Give_drop rfl ?_
        refine Give_nil ?_
        refine W_seq ?_
        refine W_region ?_
        refine L_move rfl rfl ?_
        have ho := hp; clear hp; obtain ⟨y47, hy47, hp⟩ := bind_any ho; clear ho
        refine L_callX rfl fn148 rfl (by exact fun w hw => x_bits_RotateLeft32_walk w y31 (-2)  _ hy47) ?_
        refine L_move rfl rfl ?_
        have ho := hp; clear hp; obtain ⟨y48, hy48, hp⟩ := bind_any ho; clear ho
        refine L_callX rfl fn148 rfl (by exact fun w hw => x_bits_RotateLeft32_walk w y31 (-13)  _ hy48) ?_
        refine L_binV rfl rfl rfl bv_xor ?_
        refine L_move rfl rfl ?_
        have ho := hp; clear hp; obtain ⟨y49, hy49, hp⟩ := bind_any ho; clear ho
        refine L_callX rfl fn148 rfl (by exact fun w hw => x_bits_RotateLeft32_walk w y31 (-22)  _ hy49) ?_
        refine L_binV rfl rfl rfl bv_xor ?_
        refine L_assign rfl rfl ?_
        refine L_nil ?_
        refine W_seq ?_
        refine W_region ?_
        refine L_move rfl rfl ?_
        have ho := hp; clear hp; obtain ⟨y50, hy50, hp⟩ := bind_any ho; clear ho
        refine L_idxAr rfl rfl rfl ar154 hy50 ?_
        have ho := hp; clear hp; obtain ⟨y51, hy51, hp⟩ := bind_any ho; clear ho
        refine L_ldAr (A := (AR.l v28_1)) rfl rfl (RdC.blk (by first | (with_reducible repeat (first | exact List.Mem.head _ | apply List.Mem.tail)); done | (repeat (first | exact List.Mem.head _ | apply List.Mem.tail)))) one153 hy51 ?_
        refine L_binV rfl rfl rfl bv_and ?_
        refine L_move rfl rfl ?_
        have ho := hp; clear hp; obtain ⟨y52, hy52, hp⟩ := bind_any ho; clear ho
        refine L_idxAr rfl rfl rfl ar154 hy52 ?_
        have ho := hp; clear hp; obtain ⟨y53, hy53, hp⟩ := bind_any ho; clear ho
        refine L_ldAr (A := (AR.l v28_1)) rfl rfl (RdC.blk (by first | (with_reducible repeat (first | exact List.Mem.head _ | apply List.Mem.tail)); done | (repeat (first | exact List.Mem.head _ | apply List.Mem.tail)))) one153 hy53 ?_
        refine L_binV rfl rfl rfl bv_and ?_
        refine L_binV rfl rfl rfl bv_xor ?_
        have ho := hp; clear hp; obtain ⟨y54, hy54, hp⟩ := bind_any ho; clear ho
        refine L_idxAr rfl rfl rfl ar154 hy54 ?_
        have ho := hp; clear hp; obtain ⟨y55, hy55, hp⟩ := bind_any ho; clear ho
        refine L_ldAr (A := (AR.l v28_1)) rfl rfl (RdC.blk (by first | (with_reducible repeat (first | exact List.Mem.head _ | apply List.Mem.tail)); done | (repeat (first | exact List.Mem.head _ | apply List.Mem.tail)))) one153 hy55 ?_
        have ho := hp; clear hp; obtain ⟨y56, hy56, hp⟩ := bind_any ho; clear ho
        refine L_idxAr rfl rfl rfl ar154 hy56 ?_
        have ho := hp; clear hp; obtain ⟨y57, hy57, hp⟩ := bind_any ho; clear ho
        refine L_ldAr (A := (AR.l v28_1)) rfl rfl (RdC.blk (by first | (with_reducible repeat (first | exact List.Mem.head _ | apply List.Mem.tail)); done | (repeat (first | exact List.Mem.head _ | apply List.Mem.tail)))) one153 hy57 ?_
        refine L_binV rfl rfl rfl bv_and ?_
        refine L_binV rfl rfl rfl bv_xor ?_
        refine L_assign rfl rfl ?_
        refine L_nil ?_
        refine W_region ?_
        refine L_move rfl rfl ?_
        refine L_move rfl rfl ?_
        refine L_binV rfl rfl rfl bv_add ?_
        refine L_move rfl rfl ?_
        refine L_binV rfl rfl rfl bv_add ?_
        have ho := hp; clear hp; obtain ⟨y58, hy58, hp⟩ := bind_any ho; clear ho
        refine L_idxAr rfl rfl rfl ar154 hy58 ?_
        have ho := hp; clear hp; obtain ⟨y59, hy59, hp⟩ := bind_any ho; clear ho
        refine L_ldAr (A := (AR.l v28_1)) rfl rfl (RdC.blk (by first | (with_reducible repeat (first | exact List.Mem.head _ | apply List.Mem.tail)); done | (repeat (first | exact List.Mem.head _ | apply List.Mem.tail)))) one153 hy59 ?_
        have ho := hp; clear hp; obtain ⟨y60, hy60, hp⟩ := bind_any ho; clear ho
        refine L_idxAr rfl rfl rfl ar154 hy60 ?_
        have ho := hp; clear hp; obtain ⟨y61, hy61, hp⟩ := bind_any ho; clear ho
        refine L_ldAr (A := (AR.l v28_1)) rfl rfl (RdC.blk (by first | (with_reducible repeat (first | exact List.Mem.head _ | apply List.Mem.tail)); done | (repeat (first | exact List.Mem.head _ | apply List.Mem.tail)))) one153 hy61 ?_
        have ho := hp; clear hp; obtain ⟨y62, hy62, hp⟩ := bind_any ho; clear ho
        refine L_idxAr rfl rfl rfl ar154 hy62 ?_
        have ho := hp; clear hp; obtain ⟨y63, hy63, hp⟩ := bind_any ho; clear ho
        refine L_ldAr (A := (AR.l v28_1)) rfl rfl (RdC.blk (by first | (with_reducible repeat (first | exact List.Mem.head _ | apply List.Mem.tail)); done | (repeat (first | exact List.Mem.head _ | apply List.Mem.tail)))) one153 hy63 ?_
        have ho := hp; clear hp; obtain ⟨y64, hy64, hp⟩ := bind_any ho; clear ho
        refine L_idxAr rfl rfl rfl ar154 hy64 ?_
        have ho := hp; clear hp; obtain ⟨y65, hy65, hp⟩ := bind_any ho; clear ho
        refine L_ldAr (A := (AR.l v28_1)) rfl rfl (RdC.blk (by first | (with_reducible repeat (first | exact List.Mem.head _ | apply List.Mem.tail)); done | (repeat (first | exact List.Mem.head _ | apply List.Mem.tail)))) one153 hy65 ?_
        refine L_move rfl rfl ?_
        refine L_binV rfl rfl rfl bv_add ?_
        have ho := hp; clear hp; obtain ⟨y66, hy66, hp⟩ := bind_any ho; clear ho
        refine L_idxAr rfl rfl rfl ar154 hy66 ?_
        have ho := hp; clear hp; obtain ⟨y67, hy67, hp⟩ := bind_any ho; clear ho
        refine L_ldAr (A := (AR.l v28_1)) rfl rfl (RdC.blk (by first | (with_reducible repeat (first | exact List.Mem.head _ | apply List.Mem.tail)); done | (repeat (first | exact List.Mem.head _ | apply List.Mem.tail)))) one153 hy67 ?_
        have ho := hp; clear hp; obtain ⟨y68, hy68, hp⟩ := bind_any ho; clear ho
        refine L_idxAr rfl rfl rfl ar154 hy68 ?_
        have ho := hp; clear hp; obtain ⟨y69, hy69, hp⟩ := bind_any ho; clear ho
        refine L_ldAr (A := (AR.l v28_1)) rfl rfl (RdC.blk (by first | (with_reducible repeat (first | exact List.Mem.head _ | apply List.Mem.tail)); done | (repeat (first | exact List.Mem.head _ | apply List.Mem.tail)))) one153 hy69 ?_
        have ho := hp; clear hp; obtain ⟨y70, hy70, hp⟩ := bind_any ho; clear ho
        refine L_idxAr rfl rfl rfl ar154 hy70 ?_
        have ho := hp; clear hp; obtain ⟨y71, hy71, hp⟩ := bind_any ho; clear ho
        refine L_ldAr (A := (AR.l v28_1)) rfl rfl (RdC.blk (by first | (with_reducible repeat (first | exact List.Mem.head _ | apply List.Mem.tail)); done | (repeat (first | exact List.Mem.head _ | apply List.Mem.tail)))) one153 hy71 ?_
        refine L_buildAr (xs := [(0, .tmp 143), (1, .tmp 145), (2, .tmp 147), (3, .tmp 149), (4, .tmp 153), (5, .tmp 155), (6, .tmp 157), (7, .tmp 159)]) (A := [IntKind.wrap .u32 (IntKind.wrap .u32 (IntKind.wrap .u32 (IntKind.wrap .u32 (IntKind.wrap .u32 (IntKind.wrap .u32 (y42 + bits .xor .u32 (bits .xor .u32 y34 y35) y36) + bits .xor .u32 (bits .and .u32 y33 y38) (bits .and .u32 (bits .xor .u32 (if IntKind.signed .u32 then -1 else IntKind.max .u32) y33) y40)) + y44) + y46) + bits .xor .u32 (bits .xor .u32 y47 y48) y49) + bits .xor .u32 (bits .xor .u32 (bits .and .u32 y31 y51) (bits .and .u32 y31 y53)) (bits .and .u32 y55 y57)), y59, y61, y63, IntKind.wrap .u32 (y65 + IntKind.wrap .u32 (IntKind.wrap .u32 (IntKind.wrap .u32 (IntKind.wrap .u32 (y42 + bits .xor .u32 (bits .xor .u32 y34 y35) y36) + bits .xor .u32 (bits .and .u32 y33 y38) (bits .and .u32 (bits .xor .u32 (if IntKind.signed .u32 then -1 else IntKind.max .u32) y33) y40)) + y44) + y46)), y67, y69, y71]) rfl rfl ar154 zar154 rfl ?_
        have ho := hp; clear hp; obtain ⟨y72, hy72, hp⟩ := bind_any ho; clear ho
        have ho := hp; clear hp; obtain ⟨y73, hy73, hp⟩ := bind_any ho; clear ho
        refine L_stArW (A := (AR.l v28_1)) (B := ([IntKind.wrap .u32 (IntKind.wrap .u32 (IntKind.wrap .u32 (IntKind.wrap .u32 (IntKind.wrap .u32 (IntKind.wrap .u32 (y42 + bits .xor .u32 (bits .xor .u32 y34 y35) y36) + bits .xor .u32 (bits .and .u32 y33 y38) (bits .and .u32 (bits .xor .u32 (if IntKind.signed .u32 then -1 else IntKind.max .u32) y33) y40)) + y44) + y46) + bits .xor .u32 (bits .xor .u32 y47 y48) y49) + bits .xor .u32 (bits .xor .u32 (bits .and .u32 y31 y51) (bits .and .u32 y31 y53)) (bits .and .u32 y55 y57)), y59, y61, y63, IntKind.wrap .u32 (y65 + IntKind.wrap .u32 (IntKind.wrap .u32 (IntKind.wrap .u32 (IntKind.wrap .u32 (y42 + bits .xor .u32 (bits .xor .u32 y34 y35) y36) + bits .xor .u32 (bits .and .u32 y33 y38) (bits .and .u32 (bits .xor .u32 (if IntKind.signed .u32 then -1 else IntKind.max .u32) y33) y40)) + y44) + y46)), y67, y69, y71])) rfl rfl (by first | (with_reducible repeat (first | exact Pick.here _ | apply Pick.there)); done | (repeat (first | exact Pick.here _ | apply Pick.there))) agg154 hy72 hy73 ?_
        refine L_nil ?_
        refine W_region ?_
        refine L_binV rfl rfl rfl bv_add ?_
        refine L_move rfl rfl ?_
        refine L_nil ?_
        exact ⟨(IntKind.wrap .i64 (v28_0 + 1), (AR.mk [IntKind.wrap .u32 (IntKind.wrap .u32 (IntKind.wrap .u32 (IntKind.wrap .u32 (IntKind.wrap .u32 (IntKind.wrap .u32 (y42 + bits .xor .u32 (bits .xor .u32 y34 y35) y36) + bits .xor .u32 (bits .and .u32 y33 y38) (bits .and .u32 (bits .xor .u32 (if IntKind.signed .u32 then -1 else IntKind.max .u32) y33) y40)) + y44) + y46) + bits .xor .u32 (bits .xor .u32 y47 y48) y49) + bits .xor .u32 (bits .xor .u32 (bits .and .u32 y31 y51) (bits .and .u32 y31 y53)) (bits .and .u32 y55 y57)), y59, y61, y63, IntKind.wrap .u32 (y65 + IntKind.wrap .u32 (IntKind.wrap .u32 (IntKind.wrap .u32 (IntKind.wrap .u32 (y42 + bits .xor .u32 (bits .xor .u32 y34 y35) y36) + bits .xor .u32 (bits .and .u32 y33 y38) (bits .and .u32 (bits .xor .u32 (if IntKind.signed .u32 then -1 else IntKind.max .u32) y33) y40)) + y44) + y46)), y67, y69, y71])), (Sub.cons rfl (Sub.cons rfl (Sub.cons rfl (Sub.cons rfl (Sub.cons rfl (Sub.nil _)))))), (Arr.sub (MSub.cons (by first | (with_reducible repeat (first | exact Pick.here _ | apply Pick.there)); done | (repeat (first | exact Pick.here _ | apply Pick.there))) (MSub.cons (by first | (with_reducible repeat (first | exact Pick.here _ | apply Pick.there)); done | (repeat (first | exact Pick.here _ | apply Pick.there))) (MSub.cons (by first | (with_reducible repeat (first | exact Pick.here _ | apply Pick.there)); done | (repeat (first | exact Pick.here _ | apply Pick.there))) (MSub.cons (by first | (with_reducible repeat (first | exact Pick.here _ | apply Pick.there)); done | (repeat (first | exact Pick.here _ | apply Pick.there))) (MSub.nil _)))))), some_eq hp⟩
      · skip
        replace hp := cond_f hc29 hp
        refine W_exit ?_
        have ho := hp; clear hp; obtain ⟨a74, hp, hx_a74⟩ := map_any ho; clear ho
        obtain rfl := hx28 _ hx_a74
        refine W_seq ?_
        refine W_seq ?_
        refine W_region ?_
        refine L_move rfl rfl ?_
        refine L_nil ?_
        refine W_block ?_
        refine W_while (σ := Int × AR) GT.dat (fun ((v75_0, v75_1) : Int × AR) => [(162, .int .i64 v75_0)]) (fun ((v75_0, v75_1) : Int × AR) => [blk bk2 (aC .u32 (AR.l v75_1)) 154]) [(2, _), (4, _), (12, _)] [blk bk4 _ _, blk bk12 _ _] (0, a0) hp (Sub.cons rfl (Sub.cons rfl (Sub.cons rfl (Sub.cons rfl (Sub.nil _))))) (MSub.cons (by first | (with_reducible repeat (first | exact Pick.here _ | apply Pick.there)); done | (repeat (first | exact Pick.here _ | apply Pick.there))) (MSub.cons (by first | (with_reducible repeat (first | exact Pick.here _ | apply Pick.there)); done | (repeat (first | exact Pick.here _ | apply Pick.there))) (MSub.cons (by first | (with_reducible repeat (first | exact Pick.here _ | apply Pick.there)); done | (repeat (first | exact Pick.here _ | apply Pick.there))) (MSub.nil _)))) ?_
        clear hp
        rintro ⟨v75_0, v75_1⟩ x75 hp hx75
        try dsimp only [dat_pair, dat_int, dat_bool, dat_str, dat_ar] at hp
        refine W_weaken (l' := [(2, _), (4, _), (12, _), (162, _)]) (Sub.cons rfl (Sub.cons rfl (Sub.cons rfl (Sub.cons rfl (Sub.nil _))))) (M' := [_, _, _]) (MSub.cons (by first | (with_reducible repeat (first | exact Pick.here _ | apply Pick.there)); done | (repeat (first | exact Pick.here _ | apply Pick.there))) (MSub.cons (by first | (with_reducible repeat (first | exact Pick.here _ | apply Pick.there)); done | (repeat (first | exact Pick.here _ | apply Pick.there))) (MSub.cons (by first | (with_reducible repeat (first | exact Pick.here _ | apply Pick.there)); done | (repeat (first | exact Pick.here _ | apply Pick.there))) (MSub.nil _)))) ?_
        refine W_seq ?_
        refine W_region ?_
        refine L_binV rfl rfl rfl bv_lss ?_
        refine L_nil ?_
        refine W_seq ?_
        refine W_weaken (l' := [(2, _), (4, _), (12, _), (162, _), (163, _)]) (Sub.cons rfl (Sub.cons rfl (Sub.cons rfl (Sub.cons rfl (Sub.cons rfl (Sub.nil _)))))) (MSub.refl _) ?_
        refine W_cond rfl (fun hc76 => ?_) (fun hc76 => ?_)
        · skip
          replace hp := cond_t hc76 hp
          refine W_skip ?_
          refine W_seq ?_
          refine W_block ?_
          refine W_seq ?_
          refine W_region ?_
          refine L_move rfl rfl ?_
          refine L_assign rfl rfl ?_
          refine L_nil ?_
          have ho := hp; clear hp; obtain ⟨y77, hy77, hp⟩ := bind_any ho; clear ho
          have ho := hp; clear hp; obtain ⟨y78, hy78, hp⟩ := bind_any ho; clear ho
          have ho := hp; clear hp; obtain ⟨y79, hy79, hp⟩ := bind_any ho; clear ho
          have ho := hp; clear hp; obtain ⟨y80, hy80, hp⟩ := bind_any ho; clear ho
          refine W_DS (pre := [_, _, _, _, _, _, _, _]) (suf := [_, _]) [165, 172] [] _ (perm_nil_left _) mix (by kernel_rfl) (by kernel_rfl) rfl ?_
          refine D_move GC.none (OpV.t rfl) ?_
          refine D_move GC.none (OpV.t rfl) ?_
          refine D_idxAr GC.none (OpV.t rfl) (OpV.t rfl) ar154 (fun hg => hy77) ?_
          refine D_ldAr (A := (AR.l v75_1)) GC.none (OpV.t rfl) (RdC.blk (by first | (with_reducible repeat (first | exact List.Mem.head _ | apply List.Mem.tail)); done | (repeat (first | exact List.Mem.head _ | apply List.Mem.tail)))) one153 (fun hg => hy78) ?_
          refine D_move GC.none (OpV.t rfl) ?_
          refine D_idxAr GC.none (OpV.t rfl) (OpV.t rfl) ar154 (fun hg => hy79) ?_
          refine D_ldAr (A := (AR.l v28_1)) GC.none (OpV.t rfl) (RdC.blk (by first | (with_reducible repeat (first | exact List.Mem.head _ | apply List.Mem.tail)); done | (repeat (first | exact List.Mem.head _ | apply List.Mem.tail)))) one153 (fun hg => hy80) ?_
          refine D_bin GC.none (OpV.t rfl) (OpV.t rfl) (fun hg => bv_add) ?_
          refine DV_nil ?_
          refine Give_is rfl rfl ?_
          refine Give_drop rfl ?_
          refine Give_drop rfl ?_
          refine Give_drop rfl ?_
          refine Give_drop rfl ?_
          refine Give_drop rfl ?_
          refine Give_drop rfl ?_
          refine Give_is rfl rfl ?_
          refine Give_nil ?_
          have ho := hp; clear hp; obtain ⟨y81, hy81, hp⟩ := bind_any ho; clear ho
          refine L_idxAr rfl rfl rfl ar154 hy81 ?_
          have ho := hp; clear hp; obtain ⟨y82, hy82, hp⟩ := bind_any ho; clear ho
          refine L_stAr (A := (AR.l v75_1)) rfl rfl (by first | (with_reducible repeat (first | exact Pick.here _ | apply Pick.there)); done | (repeat (first | exact Pick.here _ | apply Pick.there))) one153 hy82 ?_
          refine L_nil ?_
          refine W_region ?_
          refine L_binV rfl rfl rfl bv_add ?_
          refine L_move rfl rfl ?_
          refine L_nil ?_
          exact ⟨(IntKind.wrap .i64 (v75_0 + 1), (AR.mk y82)), (Sub.cons rfl (Sub.cons rfl (Sub.cons rfl (Sub.cons rfl (Sub.nil _))))), (Arr.sub (MSub.cons (by first | (with_reducible repeat (first | exact Pick.here _ | apply Pick.there)); done | (repeat (first | exact Pick.here _ | apply Pick.there))) (MSub.cons (by first | (with_reducible repeat (first | exact Pick.here _ | apply Pick.there)); done | (repeat (first | exact Pick.here _ | apply Pick.there))) (MSub.cons (by first | (with_reducible repeat (first | exact Pick.here _ | apply Pick.there)); done | (repeat (first | exact Pick.here _ | apply Pick.there))) (MSub.nil _))))), some_eq hp⟩
        · skip
          replace hp := cond_f hc76 hp
          refine W_exit ?_
          have ho := hp; clear hp; obtain ⟨a83, hp, hx_a83⟩ := map_any ho; clear ho
          obtain rfl := hx75 _ hx_a83
          refine W_seq ?_
          refine W_region ?_
          have ho := hp; clear hp; obtain ⟨y84, hy84, hp⟩ := bind_any ho; clear ho
          refine L_ldArW (A := (AR.l v75_1)) rfl rfl (RdC.blk (by first | (with_reducible repeat (first | exact List.Mem.head _ | apply List.Mem.tail)); done | (repeat (first | exact List.Mem.head _ | apply List.Mem.tail)))) agg154 hy84 ?_
          have ho := hp; clear hp; obtain ⟨y85, hy85, hp⟩ := bind_any ho; clear ho
          have ho := hp; clear hp; obtain ⟨y86, hy86, hp⟩ := bind_any ho; clear ho
          refine L_stArW (A := (List.replicate 8 (0 : Int))) (B := (AR.l v75_1)) rfl rfl (by first | (with_reducible repeat (first | exact Pick.here _ | apply Pick.there)); done | (repeat (first | exact Pick.here _ | apply Pick.there))) agg154 hy85 hy86 ?_
          refine L_nil ?_
          have ho := hp; clear hp; obtain ⟨y87, hy87, hp⟩ := bind_any ho; clear ho
          obtain rfl := Option.some.inj hp
          refine W_ret ?_
          refine res1 rfl (ResOK.cellAr rfl (by first | (with_reducible repeat (first | exact List.Mem.head _ | apply List.Mem.tail)); done | (repeat (first | exact List.Mem.head _ | apply List.Mem.tail))) agg154 hy87) ⟨rfl, rfl⟩ (MSub.nil _)

noncomputable def i_Sha (a0 : ByteArray) : Option ByteArray :=
  Option.bind (catP a0 (ByteArray.mk #[128])) (fun y1 => Option.bind (mkP 1 (IntKind.wrap .i64 ((IntKind.wrap .i64 (64 - (IntKind.wrap .i64 ((a0.size : Int) + 9)).tmod 64)).tmod 64 + 1)) (0 : UInt8)) (fun y2 => Option.bind (catP y1 (strP y2)) (fun y4 => Option.bind (i_Fixed (IntKind.wrap .i64 (8 * (a0.size : Int))) 7) (fun y5 => Option.bind (catP y4 y5) (fun y6 => Option.bind (alen 8 (List.replicate 8 (0 : Int))) (fun y7 => Option.bind (alen 8 ([1779033703, 3144134277, 1013904242, 2773480762, 1359893119, 2600822924, 528734635, 1541459225] : List Int)) (fun y8 => whileP (fun s9 : Int × (List Int) => cond (decide (s9.1 < (y6.size : Int))) (Option.bind (alen 8 s9.2) (fun y11 => Option.bind (sslP y6 s9.1 (IntKind.wrap .i64 (s9.1 + 64))) (fun y12 => Option.bind (i_shaBlock s9.2 y12) (fun y13 => Option.bind (alen 8 s9.2) (fun y14 => Option.bind (alen 8 y13) (fun y15 => some (.inl ((IntKind.wrap .i64 (s9.1 + 64), y13))))))))) (Option.map .inr (Option.bind (alen 8 s9.2) (fun y17 => whileP (fun s18 : ByteArray × Int => cond (decide (s18.2 < 8)) (Option.bind (ack 8 s18.2) (fun y20 => Option.bind (s9.2[y20]?) (fun y21 => Option.bind (i_Fixed (IntKind.wrap .i64 y21) 4) (fun y22 => Option.bind (catP s18.1 y22) (fun y23 => some (.inl ((y23, IntKind.wrap .i64 (s18.2 + 1))))))))) (Option.map .inr (some s18.1))) (ByteArray.empty, 0))))) (0, ([1779033703, 3144134277, 1013904242, 2773480762, 1359893119, 2600822924, 528734635, 1541459225] : List Int)))))))))

set_option maxHeartbeats 2000000 in
theorem i_Sha_walk (w : World) (a0 : ByteArray) (hg0 : GT.rd w [] gV0) (r : ByteArray) (hp : i_Sha a0 = some r) : Spec Tryd.prog 105 [.string a0].toArray w [] (IsV (.string r)) := by
  refine Spec.intro Tryd.func105 rfl Tryd.ntmps105 rfl ?_
  unfold i_Sha at hp
  try dsimp only [dat_pair, dat_int, dat_bool, dat_str, dat_ar] at hp
  refine W_seq ?_
  refine W_region ?_
  refine L_assign rfl rfl ?_
  refine L_nil ?_
  refine W_seq ?_
  refine W_region ?_
  refine L_move rfl rfl ?_
  refine L_lenT rfl rfl str9 ?_
  refine L_binV rfl rfl rfl bv_add ?_
  refine L_binV rfl rfl rfl (bv_rem (by decide)) ?_
  refine L_binV rfl rfl rfl bv_sub ?_
  refine L_binV rfl rfl rfl (bv_rem (by decide)) ?_
  refine L_assign rfl rfl ?_
  refine L_nil ?_
  refine W_seq ?_
  refine W_region ?_
  refine L_move rfl rfl ?_
  refine L_lenT rfl rfl str9 ?_
  refine L_binV rfl rfl rfl bv_mul ?_
  refine L_assign rfl rfl ?_
  refine L_nil ?_
  refine W_seq ?_
  have ho := hp; clear hp; obtain ⟨y1, hy1, hp⟩ := bind_any ho; clear ho
  have ho := hp; clear hp; obtain ⟨y2, hy2, hp⟩ := bind_any ho; clear ho
  have ho := hp; clear hp; obtain ⟨y4, hy4, hp⟩ := bind_any ho; clear ho
  have ho := hp; clear hp; obtain ⟨y5, hy5, hp⟩ := bind_any ho; clear ho
  have ho := hp; clear hp; obtain ⟨y6, hy6, hp⟩ := bind_any ho; clear ho
  refine W_D0 [5] mix (by kernel_rfl) rfl ?_
  refine D_move GC.none (OpV.t rfl) ?_
  refine D_bin GC.none (OpV.t rfl) OpV.c (fun hg => (bv_saddP hy1)) ?_
  refine D_move GC.none (OpV.t rfl) ?_
  refine D_bin GC.none (OpV.t rfl) OpV.c (fun hg => bv_add) ?_
  refine D_mkP (0 : UInt8) (OpV.t rfl) (OpV.t rfl) el59 rfl rfl (FlatT.flat _) hy2 ?_
  refine D_toStrO (r := y2) (t := 24) rfl und59 und5 und9 (by kernel_rfl) ?_
  refine D_bin GC.none (OpV.t rfl) (OpV.t rfl) (fun hg => (bv_saddP hy4)) ?_
  refine D_move GC.none (OpV.t rfl) ?_
  refine D_callX GC.none fn125 (OpVs.cons (OpV.t rfl) (OpVs.cons OpV.c (OpVs.nil))) (by exact fun hg w F hF hM => i_Fixed_walk w (IntKind.wrap .i64 (8 * (a0.size : Int))) 7  _ hy5) ?_
  refine D_bin GC.none (OpV.t rfl) (OpV.t rfl) (fun hg => (bv_saddP hy6)) ?_
  refine D_assign GC.none (OpV.t rfl) ?_
  refine DV_nil ?_
  refine Give_is rfl rfl ?_
  refine Give_drop rfl ?_
  refine Give_drop rfl ?_
  refine Give_drop rfl ?_
  refine Give_drop rfl ?_
  refine Give_drop rfl ?_
  refine Give_cons rfl ?_
  refine Give_drop rfl ?_
  refine Give_drop rfl ?_
  refine Give_drop rfl ?_
  refine Give_drop rfl ?_
  refine Give_nil ?_
  refine W_seq ?_
  refine W_region ?_
  refine L_buildAr (xs := [(0, .const (.int .u32 1779033703)), (1, .const (.int .u32 3144134277)), (2, .const (.int .u32 1013904242)), (3, .const (.int .u32 2773480762)), (4, .const (.int .u32 1359893119)), (5, .const (.int .u32 2600822924)), (6, .const (.int .u32 528734635)), (7, .const (.int .u32 1541459225))]) (A := [1779033703, 3144134277, 1013904242, 2773480762, 1359893119, 2600822924, 528734635, 1541459225]) rfl rfl ar154 zar154 rfl ?_
  refine L_alloc rfl zar154 (fun bk6 => ?_)
  have ho := hp; clear hp; obtain ⟨y7, hy7, hp⟩ := bind_any ho; clear ho
  have ho := hp; clear hp; obtain ⟨y8, hy8, hp⟩ := bind_any ho; clear ho
  refine L_stArW (A := (List.replicate 8 (0 : Int))) (B := ([1779033703, 3144134277, 1013904242, 2773480762, 1359893119, 2600822924, 528734635, 1541459225])) rfl rfl (by first | (with_reducible repeat (first | exact Pick.here _ | apply Pick.there)); done | (repeat (first | exact Pick.here _ | apply Pick.there))) agg154 hy7 hy8 ?_
  refine L_nil ?_
  refine W_seq ?_
  refine W_seq ?_
  refine W_region ?_
  refine L_assign rfl rfl ?_
  refine L_nil ?_
  refine W_block ?_
  refine W_while (σ := Int × AR) GT.dat (fun ((v9_0, v9_1) : Int × AR) => [(7, .int .i64 v9_0)]) (fun ((v9_0, v9_1) : Int × AR) => [blk bk6 (aC .u32 (AR.l v9_1)) 154]) [(5, _), (6, _)] [] (0, (AR.mk [1779033703, 3144134277, 1013904242, 2773480762, 1359893119, 2600822924, 528734635, 1541459225])) hp (Sub.cons rfl (Sub.cons rfl (Sub.cons rfl (Sub.nil _)))) (MSub.cons (by first | (with_reducible repeat (first | exact Pick.here _ | apply Pick.there)); done | (repeat (first | exact Pick.here _ | apply Pick.there))) (MSub.nil _)) ?_
  clear hp
  rintro ⟨v9_0, v9_1⟩ x9 hp hx9
  try dsimp only [dat_pair, dat_int, dat_bool, dat_str, dat_ar] at hp
  refine W_weaken (l' := [(5, _), (6, _), (7, _)]) (Sub.cons rfl (Sub.cons rfl (Sub.cons rfl (Sub.nil _)))) (M' := [_]) (MSub.cons (by first | (with_reducible repeat (first | exact Pick.here _ | apply Pick.there)); done | (repeat (first | exact Pick.here _ | apply Pick.there))) (MSub.nil _)) ?_
  refine W_seq ?_
  refine W_seq ?_
  refine W_region ?_
  refine L_move rfl rfl ?_
  refine L_move rfl rfl ?_
  refine L_lenT rfl rfl str9 ?_
  refine L_binV rfl rfl rfl bv_lss ?_
  refine L_nil ?_
  refine W_weaken (l' := [(5, _), (6, _), (7, _), (34, _)]) (Sub.cons rfl (Sub.cons rfl (Sub.cons rfl (Sub.cons rfl (Sub.nil _))))) (MSub.refl _) ?_
  refine W_cond rfl (fun hc10 => ?_) (fun hc10 => ?_)
  · skip
    replace hp := cond_t hc10 hp
    refine W_skip ?_
    refine W_seq ?_
    refine W_block ?_
    have ho := hp; clear hp; obtain ⟨y11, hy11, hp⟩ := bind_any ho; clear ho
    have ho := hp; clear hp; obtain ⟨y12, hy12, hp⟩ := bind_any ho; clear ho
    refine W_DS (pre := [_, _, _, _, _, _]) (suf := [_, _]) [37, 42] [] _ (perm_nil_left _) mix (by kernel_rfl) (by kernel_rfl) rfl ?_
    refine D_ldArW (A := (AR.l v9_1)) GC.none (OpV.t rfl) (RdC.blk (by first | (with_reducible repeat (first | exact List.Mem.head _ | apply List.Mem.tail)); done | (repeat (first | exact List.Mem.head _ | apply List.Mem.tail)))) agg154 (fun hg => hy11) ?_
    refine D_move GC.none (OpV.t rfl) ?_
    refine D_move GC.none (OpV.t rfl) ?_
    refine D_move GC.none (OpV.t rfl) ?_
    refine D_bin GC.none (OpV.t rfl) OpV.c (fun hg => bv_add) ?_
    refine D_ssl GC.none (OpV.t rfl) (optD.some (OpV.t rfl)) (optD.some (OpV.t rfl)) str9 (fun hg => hy12) ?_
    refine DV_nil ?_
    refine Give_is rfl rfl ?_
    refine Give_drop rfl ?_
    refine Give_drop rfl ?_
    refine Give_drop rfl ?_
    refine Give_drop rfl ?_
    refine Give_is rfl rfl ?_
    refine Give_nil ?_
    have ho := hp; clear hp; obtain ⟨y13, hy13, hp⟩ := bind_any ho; clear ho
    refine L_callX rfl fn126 rfl (by exact fun w hw => i_shaBlock_walk w v9_1 y12 (RdT.now (RdT.old hg0) hw) _ hy13) ?_
    have ho := hp; clear hp; obtain ⟨y14, hy14, hp⟩ := bind_any ho; clear ho
    have ho := hp; clear hp; obtain ⟨y15, hy15, hp⟩ := bind_any ho; clear ho
    refine L_stArW (A := (AR.l v9_1)) (B := y13) rfl rfl (by first | (with_reducible repeat (first | exact Pick.here _ | apply Pick.there)); done | (repeat (first | exact Pick.here _ | apply Pick.there))) agg154 hy14 hy15 ?_
    refine L_nil ?_
    refine W_region ?_
    refine L_move rfl rfl ?_
    refine L_binV rfl rfl rfl bv_add ?_
    refine L_assign rfl rfl ?_
    refine L_nil ?_
    exact ⟨(IntKind.wrap .i64 (v9_0 + 64), (AR.mk y13)), (Sub.cons rfl (Sub.cons rfl (Sub.cons rfl (Sub.nil _)))), (Arr.sub (MSub.cons (by first | (with_reducible repeat (first | exact Pick.here _ | apply Pick.there)); done | (repeat (first | exact Pick.here _ | apply Pick.there))) (MSub.nil _))), some_eq hp⟩
  · skip
    replace hp := cond_f hc10 hp
    refine W_exit ?_
    have ho := hp; clear hp; obtain ⟨a16, hp, hx_a16⟩ := map_any ho; clear ho
    obtain rfl := hx9 _ hx_a16
    refine W_seq ?_
    refine W_region ?_
    refine L_assign rfl rfl ?_
    refine L_nil ?_
    refine W_seq ?_
    refine W_seq ?_
    refine W_region ?_
    have ho := hp; clear hp; obtain ⟨y17, hy17, hp⟩ := bind_any ho; clear ho
    refine L_ldArW (A := (AR.l v9_1)) rfl rfl (RdC.blk (by first | (with_reducible repeat (first | exact List.Mem.head _ | apply List.Mem.tail)); done | (repeat (first | exact List.Mem.head _ | apply List.Mem.tail)))) agg154 hy17 ?_
    refine L_move rfl rfl ?_
    refine L_nil ?_
    refine W_block ?_
    refine W_while (σ := ByteArray × Int) GT.dat (fun ((v18_0, v18_1) : ByteArray × Int) => [(8, .string v18_0), (45, .int .i64 v18_1)]) (fun ((v18_0, v18_1) : ByteArray × Int) => []) [(44, _)] [] (ByteArray.empty, 0) hp (Sub.cons rfl (Sub.cons rfl (Sub.cons rfl (Sub.nil _)))) (MSub.nil _) ?_
    clear hp
    rintro ⟨v18_0, v18_1⟩ x18 hp hx18
    try dsimp only [dat_pair, dat_int, dat_bool, dat_str, dat_ar] at hp
    refine W_weaken (l' := [(8, _), (44, _), (45, _)]) (Sub.cons rfl (Sub.cons rfl (Sub.cons rfl (Sub.nil _)))) (M' := []) (MSub.nil _) ?_
    refine W_seq ?_
    refine W_region ?_
    refine L_binV rfl rfl rfl bv_lss ?_
    refine L_nil ?_
    refine W_seq ?_
    refine W_weaken (l' := [(8, _), (44, _), (45, _), (46, _)]) (Sub.cons rfl (Sub.cons rfl (Sub.cons rfl (Sub.cons rfl (Sub.nil _))))) (MSub.refl _) ?_
    refine W_cond rfl (fun hc19 => ?_) (fun hc19 => ?_)
    · skip
      replace hp := cond_t hc19 hp
      refine W_skip ?_
      refine W_seq ?_
      refine W_block ?_
      refine W_seq ?_
      refine W_region ?_
      have ho := hp; clear hp; obtain ⟨y20, hy20, hp⟩ := bind_any ho; clear ho
      have ho := hp; clear hp; obtain ⟨y21, hy21, hp⟩ := bind_any ho; clear ho
      refine L_idxArV (A := (AR.l v9_1)) rfl rfl rfl ar154 hy20 hy21 ?_
      refine L_assign rfl rfl ?_
      refine L_nil ?_
      refine W_region ?_
      refine L_move rfl rfl ?_
      refine L_move rfl rfl ?_
      refine L_convInt rfl rfl und3 (by rw [und153]; rfl) ?_
      have ho := hp; clear hp; obtain ⟨y22, hy22, hp⟩ := bind_any ho; clear ho
      refine L_callX rfl fn125 rfl (by exact fun w hw => i_Fixed_walk w (IntKind.wrap .i64 y21) 4  _ hy22) ?_
      have ho := hp; clear hp; obtain ⟨y23, hy23, hp⟩ := bind_any ho; clear ho
      refine L_binV rfl rfl rfl (bv_saddP hy23) ?_
      refine L_assign rfl rfl ?_
      refine L_nil ?_
      refine W_region ?_
      refine L_binV rfl rfl rfl bv_add ?_
      refine L_move rfl rfl ?_
      refine L_nil ?_
      exact ⟨(y23, IntKind.wrap .i64 (v18_1 + 1)), (Sub.cons rfl (Sub.cons rfl (Sub.cons rfl (Sub.nil _)))), (Arr.sub (MSub.nil _)), some_eq hp⟩
    · skip
      replace hp := cond_f hc19 hp
      refine W_exit ?_
      have ho := hp; clear hp; obtain ⟨a24, hp, hx_a24⟩ := map_any ho; clear ho
      obtain rfl := hx18 _ hx_a24
      refine W_seq ?_
      refine W_region ?_
      refine L_move rfl rfl ?_
      refine L_assign rfl rfl ?_
      refine L_nil ?_
      obtain rfl := Option.some.inj hp
      refine W_ret ?_
      refine res1 rfl (ResOK.tmp rfl) ⟨rfl, rfl⟩ (MSub.nil _)

noncomputable def i_Short (a0 : ByteArray) : Option ByteArray :=
  Option.bind (i_Sha a0) (fun y1 => Option.bind (sslP y1 0 8) (fun y2 => some y2))

theorem i_Short_walk (w : World) (a0 : ByteArray) (hg0 : GT.rd w [] gV0) (r : ByteArray) (hp : i_Short a0 = some r) : Spec Tryd.prog 68 [.string a0].toArray w [] (IsV (.string r)) := by
  refine Spec.intro Tryd.func68 rfl Tryd.ntmps68 rfl ?_
  unfold i_Short at hp
  try dsimp only [dat_pair, dat_int, dat_bool, dat_str, dat_ar] at hp
  refine W_seq ?_
  refine W_region ?_
  refine L_assign rfl rfl ?_
  refine L_nil ?_
  refine W_seq ?_
  refine W_region ?_
  refine L_move rfl rfl ?_
  have ho := hp; clear hp; obtain ⟨y1, hy1, hp⟩ := bind_any ho; clear ho
  refine L_callX rfl fn105 rfl (by exact fun w hw => i_Sha_walk w a0 (RdT.now (RdT.old hg0) hw) _ hy1) ?_
  have ho := hp; clear hp; obtain ⟨y2, hy2, hp⟩ := bind_any ho; clear ho
  refine L_ssl rfl rfl rfl rfl str9 hy2 ?_
  refine L_assign rfl rfl ?_
  refine L_nil ?_
  obtain rfl := Option.some.inj hp
  refine W_ret ?_
  refine res1 rfl (ResOK.tmp rfl) ⟨rfl, rfl⟩ (MSub.nil _)

end Go.Proofs.SL
