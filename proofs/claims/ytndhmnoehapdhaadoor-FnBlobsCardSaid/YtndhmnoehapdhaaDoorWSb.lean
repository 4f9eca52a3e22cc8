/- Walks of functions, each with the function on data that it follows. -/
import Derived.Test.YtndhmnoehapdhaaDoorW0
import Derived.Test.YtndhmnoehapdhaaDoorG0
namespace Go.Proofs.SL
open Go
theorem el143 : elOf Tryd.prog 143 = some (3, 1, 8, [.int .i64 0]) := by kernel_rfl
theorem fn143 : IsFn Tryd.prog 143 := ⟨_, Tryd.func143, by kernel_rfl, rfl⟩
theorem str9 : isStr Tryd.prog 9 = true := by kernel_rfl
theorem one3 : oneOf Tryd.prog 3 = true := by kernel_rfl
theorem fn142 : IsFn Tryd.prog 142 := ⟨_, Tryd.func142, by kernel_rfl, rfl⟩
theorem und128 : Tryd.prog.underlying 128 = some (.int .u64) := by kernel_rfl
theorem fn120 : IsFn Tryd.prog 120 := ⟨_, Tryd.func120, by kernel_rfl, rfl⟩
theorem fn121 : IsFn Tryd.prog 121 := ⟨_, Tryd.func121, by kernel_rfl, rfl⟩
theorem fn89 : IsFn Tryd.prog 89 := ⟨_, Tryd.func89, by kernel_rfl, rfl⟩
def s_l3Keys_c : List Int := [1116352408, 1899447441, 3049323471, 3921009573, 961987163, 1508970993, 2453635748, 2870763221, 3624381080, 310598401, 607225278, 1426881987, 1925078388, 2162078206, 2614888103, 3248222580, 3835390401, 4022224774, 264347078, 604807628, 770255983, 1249150122, 1555081692, 1996064986, 2554220882, 2821834349, 2952996808, 3210313671, 3336571891, 3584528711, 113926993, 338241895, 666307205, 773529912, 1294757372, 1396182291, 1695183700, 1986661051, 2177026350, 2456956037, 2730485921, 2820302411, 3259730800, 3345764771, 3516065817, 3600352804, 4094571909, 275423344, 430227734, 506948616, 659060556, 883997877, 958139571, 1322822218, 1537002063, 1747873779, 1955562222, 2024104815, 2227730452, 2361852424, 2428436474, 2756734187, 3204031479, 3329325298]
noncomputable def s_l3Keys  : Option (List Int) :=
  Option.bind (some s_l3Keys_c) (fun y1 => some y1)

set_option maxHeartbeats 1000000 in
set_option maxRecDepth 20000 in
theorem s_l3Keys_walk (w : World)   (r : (List Int)) (hp : s_l3Keys  = some r) : Spec Tryd.prog 120 [].toArray w [] (fun v M => ∃ (x0 : TL Int), v = (TL.hdr x0) ∧ GT.dat x0 = r ∧ M = [treeH x0]) := by
  refine Spec.intro Tryd.func120 rfl Tryd.ntmps120 rfl ?_
  unfold s_l3Keys at hp
  try dsimp only [dat_pair, dat_int, dat_bool, dat_str, dat_ar] at hp
  refine W_seq ?_
  refine W_region ?_
  refine L_assign (v := (TL.hdr (TL.nil Int 0))) rfl rfl ?_
  refine L_nil ?_
  refine W_seq ?_
  refine W_region ?_
  have ho := hp; clear hp; obtain ⟨y1, hy1, hp⟩ := bind_any ho; clear ho
  refine L_bsNC s_l3Keys_c rfl (by kernel_rfl) (by kernel_rfl) el143 rfl rfl rfl rfl (by kernel_rfl) (fun X2 hdX2 => ?_)
  obtain rfl : GT.dat X2 = y1 := hdX2.trans (Option.some.inj hy1)
  clear hy1 hdX2
  refine L_assign rfl rfl ?_
  refine L_nil ?_
  obtain rfl := Option.some.inj hp
  refine W_ret ?_
  refine res1 rfl (ResOK.tmp rfl) ⟨X2, rfl, rfl, rfl⟩ (MSub.cons (by first | (with_reducible repeat (first | exact Pick.here _ | apply Pick.there)); done | (repeat (first | exact Pick.here _ | apply Pick.there))) (MSub.nil _))

noncomputable def s_l3Word (a0 : Int) : Option Int :=
  some (bits .and .i64 a0 4294967295)

theorem s_l3Word_walk (w : World) (a0 : Int)  (r : Int) (hp : s_l3Word a0 = some r) : Spec Tryd.prog 143 [.int .i64 a0].toArray w [] (IsV (.int .i64 r)) := by
  refine Spec.intro Tryd.func143 rfl Tryd.ntmps143 rfl ?_
  unfold s_l3Word at hp
  try dsimp only [dat_pair, dat_int, dat_bool, dat_str, dat_ar] at hp
  refine W_seq ?_
  refine W_region ?_
  refine L_assign rfl rfl ?_
  refine L_nil ?_
  refine W_seq ?_
  refine W_region ?_
  refine L_move rfl rfl ?_
  refine L_binV rfl rfl rfl bv_and ?_
  refine L_assign rfl rfl ?_
  refine L_nil ?_
  obtain rfl := Option.some.inj hp
  refine W_ret ?_
  refine res1 rfl (ResOK.tmp rfl) ⟨rfl, rfl⟩ (MSub.nil _)

noncomputable def s_l3Right (a0 : Int) (a1 : Int) : Option Int :=
  Option.bind (shrP .i64 a0 a1) (fun y1 => Option.bind (shlP .i64 a0 (IntKind.wrap .u64 (32 - a1))) (fun y2 => Option.bind (s_l3Word (bits .or .i64 y1 y2)) (fun y3 => some y3)))

theorem s_l3Right_walk (w : World) (a0 : Int) (a1 : Int)  (r : Int) (hp : s_l3Right a0 a1 = some r) : Spec Tryd.prog 142 [.int .i64 a0, .int .u64 a1].toArray w [] (IsV (.int .i64 r)) := by
  refine Spec.intro Tryd.func142 rfl Tryd.ntmps142 rfl ?_
  unfold s_l3Right at hp
  try dsimp only [dat_pair, dat_int, dat_bool, dat_str, dat_ar] at hp
  refine W_seq ?_
  refine W_region ?_
  refine L_assign rfl rfl ?_
  refine L_nil ?_
  refine W_seq ?_
  refine W_region ?_
  refine L_move rfl rfl ?_
  refine L_move rfl rfl ?_
  have ho := hp; clear hp; obtain ⟨y1, hy1, hp⟩ := bind_any ho; clear ho
  refine L_binV rfl rfl rfl (bv_shrP hy1) ?_
  refine L_move rfl rfl ?_
  refine L_move rfl rfl ?_
  refine L_binV rfl rfl rfl bv_sub ?_
  have ho := hp; clear hp; obtain ⟨y2, hy2, hp⟩ := bind_any ho; clear ho
  refine L_binV rfl rfl rfl (bv_shlP hy2) ?_
  refine L_binV rfl rfl rfl bv_or ?_
  have ho := hp; clear hp; obtain ⟨y3, hy3, hp⟩ := bind_any ho; clear ho
  refine L_callX rfl fn143 rfl (by exact fun w hw => s_l3Word_walk w (bits .or .i64 y1 y2)  _ hy3) ?_
  refine L_assign rfl rfl ?_
  refine L_nil ?_
  obtain rfl := Option.some.inj hp
  refine W_ret ?_
  refine res1 rfl (ResOK.tmp rfl) ⟨rfl, rfl⟩ (MSub.nil _)

noncomputable def s_l3Block (a0 : List Int) (a1 : ByteArray) (a2 : List Int) : Option (List Int) :=
  Option.bind (mkP 8 64 (0 : Int)) (fun y1 => whileP (fun s3 : (List Int) × Int => cond (decide (s3.2 < 16)) (Option.bind (sidx a1 (IntKind.wrap .i64 (4 * s3.2))) (fun y5 => Option.bind (sidx a1 (IntKind.wrap .i64 (IntKind.wrap .i64 (4 * s3.2) + 1))) (fun y6 => Option.bind (sidx a1 (IntKind.wrap .i64 (IntKind.wrap .i64 (4 * s3.2) + 2))) (fun y7 => Option.bind (sidx a1 (IntKind.wrap .i64 (IntKind.wrap .i64 (4 * s3.2) + 3))) (fun y8 => Option.bind (idx s3.1 s3.2) (fun y9 => Option.bind (some (s3.1.set (s3.2.toNat) (bits .or .i64 (bits .or .i64 (bits .or .i64 (IntKind.wrap .i64 (IntKind.wrap .i64 y5 * 2 ^ (24 : Int).toNat)) (IntKind.wrap .i64 (IntKind.wrap .i64 y6 * 2 ^ (16 : Int).toNat))) (IntKind.wrap .i64 (IntKind.wrap .i64 y7 * 2 ^ (8 : Int).toNat))) (IntKind.wrap .i64 y8)))) (fun y10 => some (.inl ((y10, IntKind.wrap .i64 (s3.2 + 1))))))))))) (Option.map .inr (whileP (fun s13 : (List Int) × Int => cond (decide (s13.2 < 64)) (Option.bind (idx s13.1 (IntKind.wrap .i64 (s13.2 - 15))) (fun y15 => Option.bind (s_l3Right y15 7) (fun y16 => Option.bind (idx s13.1 (IntKind.wrap .i64 (s13.2 - 15))) (fun y17 => Option.bind (s_l3Right y17 18) (fun y18 => Option.bind (idx s13.1 (IntKind.wrap .i64 (s13.2 - 15))) (fun y19 => Option.bind (idx s13.1 (IntKind.wrap .i64 (s13.2 - 2))) (fun y20 => Option.bind (s_l3Right y20 17) (fun y21 => Option.bind (idx s13.1 (IntKind.wrap .i64 (s13.2 - 2))) (fun y22 => Option.bind (s_l3Right y22 19) (fun y23 => Option.bind (idx s13.1 (IntKind.wrap .i64 (s13.2 - 2))) (fun y24 => Option.bind (idx s13.1 (IntKind.wrap .i64 (s13.2 - 16))) (fun y25 => Option.bind (idx s13.1 (IntKind.wrap .i64 (s13.2 - 7))) (fun y26 => Option.bind (s_l3Word (IntKind.wrap .i64 (IntKind.wrap .i64 (IntKind.wrap .i64 (y25 + bits .xor .i64 (bits .xor .i64 y16 y18) (y19 / 2 ^ (3 : Int).toNat)) + y26) + bits .xor .i64 (bits .xor .i64 y21 y23) (y24 / 2 ^ (10 : Int).toNat)))) (fun y27 => Option.bind (idx s13.1 s13.2) (fun y28 => Option.bind (some (s13.1.set (s13.2.toNat) y27)) (fun y29 => some (.inl ((y29, IntKind.wrap .i64 (s13.2 + 1)))))))))))))))))))) (Option.map .inr (Option.bind (some ([] : List Int)) (fun y33 => Option.bind (appP y33 a0) (fun y35 => whileP (fun s36 : (List Int) × Int => cond (decide (s36.2 < 64)) (Option.bind (idx s36.1 4) (fun y38 => Option.bind (idx s36.1 0) (fun y39 => Option.bind (idx s36.1 7) (fun y40 => Option.bind (s_l3Right y38 6) (fun y41 => Option.bind (s_l3Right y38 11) (fun y42 => Option.bind (s_l3Right y38 25) (fun y43 => Option.bind (idx s36.1 5) (fun y44 => Option.bind (s_l3Word (bits .xor .i64 (if IntKind.signed .i64 then -1 else IntKind.max .i64) y38)) (fun y45 => Option.bind (idx s36.1 6) (fun y46 => Option.bind (idx a2 s36.2) (fun y47 => Option.bind (idx s13.1 s36.2) (fun y48 => Option.bind (s_l3Right y39 2) (fun y49 => Option.bind (s_l3Right y39 13) (fun y50 => Option.bind (s_l3Right y39 22) (fun y51 => Option.bind (idx s36.1 1) (fun y52 => Option.bind (idx s36.1 2) (fun y53 => Option.bind (idx s36.1 1) (fun y54 => Option.bind (idx s36.1 2) (fun y55 => Option.bind (s_l3Word (IntKind.wrap .i64 (IntKind.wrap .i64 (IntKind.wrap .i64 (IntKind.wrap .i64 (IntKind.wrap .i64 (y40 + bits .xor .i64 (bits .xor .i64 y41 y42) y43) + bits .xor .i64 (bits .and .i64 y38 y44) (bits .and .i64 y45 y46)) + y47) + y48) + IntKind.wrap .i64 (bits .xor .i64 (bits .xor .i64 y49 y50) y51 + bits .xor .i64 (bits .xor .i64 (bits .and .i64 y39 y52) (bits .and .i64 y39 y53)) (bits .and .i64 y54 y55))))) (fun y56 => Option.bind (idx s36.1 0) (fun y57 => Option.bind (idx s36.1 1) (fun y58 => Option.bind (idx s36.1 2) (fun y59 => Option.bind (idx s36.1 3) (fun y60 => Option.bind (s_l3Word (IntKind.wrap .i64 (y60 + IntKind.wrap .i64 (IntKind.wrap .i64 (IntKind.wrap .i64 (IntKind.wrap .i64 (y40 + bits .xor .i64 (bits .xor .i64 y41 y42) y43) + bits .xor .i64 (bits .and .i64 y38 y44) (bits .and .i64 y45 y46)) + y47) + y48)))) (fun y61 => Option.bind (idx s36.1 4) (fun y62 => Option.bind (idx s36.1 5) (fun y63 => Option.bind (idx s36.1 6) (fun y64 => Option.bind (some ([y56, y57, y58, y59, y61, y62, y63, y64] : List Int)) (fun y65 => some (.inl ((y65, IntKind.wrap .i64 (s36.2 + 1))))))))))))))))))))))))))))))))) (Option.map .inr (Option.bind (some ([] : List Int)) (fun y69 => whileP (fun s70 : (List Int) × Int => cond (decide (s70.2 < 8)) (Option.bind (idx a0 s70.2) (fun y72 => Option.bind (idx s36.1 s70.2) (fun y73 => Option.bind (s_l3Word (IntKind.wrap .i64 (y72 + y73))) (fun y74 => Option.bind (appP s70.1 [y74]) (fun y76 => some (.inl ((y76, IntKind.wrap .i64 (s70.2 + 1))))))))) (Option.map .inr (some s70.1))) (y69, 0))))) (y35, 0)))))) (s3.1, 16)))) (y1, 0))

set_option maxHeartbeats 8000000 in
theorem s_l3Block_walk (w : World) (a0 : TL Int) (a1 : ByteArray) (a2 : TL Int) (h0 : GT.rd w [] a0) (h2 : GT.rd w [] a2) (r : (List Int)) (hp : s_l3Block (GT.dat a0) a1 (GT.dat a2) = some r) : Spec Tryd.prog 121 [(TL.hdr a0), .string a1, (TL.hdr a2)].toArray w [] (fun v M => ∃ (x0 : TL Int), v = (TL.hdr x0) ∧ GT.dat x0 = r ∧ M = [treeH x0]) := by
  refine Spec.intro Tryd.func121 rfl Tryd.ntmps121 rfl ?_
  unfold s_l3Block at hp
  try dsimp only [dat_pair, dat_int, dat_bool, dat_str, dat_ar] at hp
  refine W_seq ?_
  refine W_region ?_
  refine L_assign (v := (TL.hdr (TL.nil Int 0))) rfl rfl ?_
  refine L_nil ?_
  refine W_seq ?_
  refine W_region ?_
  have ho := hp; clear hp; obtain ⟨y1, hy1, hp⟩ := bind_any ho; clear ho
  refine L_mkP (0 : Int) rfl rfl rfl el143 rfl rfl (FlatT.flat _) hy1 (fun X2 hdX2 => ?_)
  subst hdX2
  refine L_assign rfl rfl ?_
  refine L_nil ?_
  refine W_seq ?_
  refine W_seq ?_
  refine W_region ?_
  refine L_assign rfl rfl ?_
  refine L_nil ?_
  refine W_block ?_
  refine W_while (σ := (TL Int) × Int) GT.dat (fun ((v3_0, v3_1) : (TL Int) × Int) => [(7, (TL.hdr v3_0)), (8, .int .i64 v3_1)]) (fun ((v3_0, v3_1) : (TL Int) × Int) => [treeH v3_0]) [(0, _), (1, _), (2, _)] [] (X2, 0) hp (Sub.cons rfl (Sub.cons rfl (Sub.cons rfl (Sub.cons rfl (Sub.cons rfl (Sub.nil _)))))) (MSub.cons (by first | (with_reducible repeat (first | exact Pick.here _ | apply Pick.there)); done | (repeat (first | exact Pick.here _ | apply Pick.there))) (MSub.nil _)) ?_
  clear hp
  rintro ⟨v3_0, v3_1⟩ x3 hp hx3
  try dsimp only [dat_pair, dat_int, dat_bool, dat_str, dat_ar] at hp
  refine W_weaken (l' := [(0, _), (1, _), (2, _), (7, _), (8, _)]) (Sub.cons rfl (Sub.cons rfl (Sub.cons rfl (Sub.cons rfl (Sub.cons rfl (Sub.nil _)))))) (M' := [_]) (MSub.cons (by first | (with_reducible repeat (first | exact Pick.here _ | apply Pick.there)); done | (repeat (first | exact Pick.here _ | apply Pick.there))) (MSub.nil _)) ?_
  refine W_seq ?_
  refine W_seq ?_
  refine W_region ?_
  refine L_move rfl rfl ?_
  refine L_binV rfl rfl rfl bv_lss ?_
  refine L_nil ?_
  refine W_weaken (l' := [(0, _), (1, _), (2, _), (7, _), (8, _), (22, _)]) (Sub.cons rfl (Sub.cons rfl (Sub.cons rfl (Sub.cons rfl (Sub.cons rfl (Sub.cons rfl (Sub.nil _))))))) (MSub.refl _) ?_
  refine W_cond rfl (fun hc4 => ?_) (fun hc4 => ?_)
  · skip
    replace hp := cond_t hc4 hp
    refine W_skip ?_
    refine W_seq ?_
    refine W_block ?_
    have ho := hp; clear hp; obtain ⟨y5, hy5, hp⟩ := bind_any ho; clear ho
    have ho := hp; clear hp; obtain ⟨y6, hy6, hp⟩ := bind_any ho; clear ho
    have ho := hp; clear hp; obtain ⟨y7, hy7, hp⟩ := bind_any ho; clear ho
    have ho := hp; clear hp; obtain ⟨y8, hy8, hp⟩ := bind_any ho; clear ho
    refine W_DS (pre := [_, _, _, _, _, _, _, _, _, _, _, _, _, _, _, _, _, _, _, _, _, _, _, _, _, _, _, _, _, _, _]) (suf := [_, _]) [25, 26, 55] [] _ (perm_nil_left _) mix (by kernel_rfl) (by kernel_rfl) rfl ?_
    refine D_move GC.none (OpV.t rfl) ?_
    refine D_move GC.none (OpV.t rfl) ?_
    refine D_move GC.none (OpV.t rfl) ?_
    refine D_move GC.none (OpV.t rfl) ?_
    refine D_bin GC.none OpV.c (OpV.t rfl) (fun hg => bv_mul) ?_
    refine D_idxS GC.none (OpV.t rfl) (OpV.t rfl) str9 (fun hg => hy5) ?_
    refine D_convInt GC.none (OpV.t rfl) und3 (by rw [und5]; rfl) ?_
    refine D_bin GC.none (OpV.t rfl) OpV.c (fun hg => (bv_shl (by decide) (by decide))) ?_
    refine D_move GC.none (OpV.t rfl) ?_
    refine D_move GC.none (OpV.t rfl) ?_
    refine D_bin GC.none OpV.c (OpV.t rfl) (fun hg => bv_mul) ?_
    refine D_bin GC.none (OpV.t rfl) OpV.c (fun hg => bv_add) ?_
    refine D_idxS GC.none (OpV.t rfl) (OpV.t rfl) str9 (fun hg => hy6) ?_
    refine D_convInt GC.none (OpV.t rfl) und3 (by rw [und5]; rfl) ?_
    refine D_bin GC.none (OpV.t rfl) OpV.c (fun hg => (bv_shl (by decide) (by decide))) ?_
    refine D_bin GC.none (OpV.t rfl) (OpV.t rfl) (fun hg => bv_or) ?_
    refine D_move GC.none (OpV.t rfl) ?_
    refine D_move GC.none (OpV.t rfl) ?_
    refine D_bin GC.none OpV.c (OpV.t rfl) (fun hg => bv_mul) ?_
    refine D_bin GC.none (OpV.t rfl) OpV.c (fun hg => bv_add) ?_
    refine D_idxS GC.none (OpV.t rfl) (OpV.t rfl) str9 (fun hg => hy7) ?_
    refine D_convInt GC.none (OpV.t rfl) und3 (by rw [und5]; rfl) ?_
    refine D_bin GC.none (OpV.t rfl) OpV.c (fun hg => (bv_shl (by decide) (by decide))) ?_
    refine D_bin GC.none (OpV.t rfl) (OpV.t rfl) (fun hg => bv_or) ?_
    refine D_move GC.none (OpV.t rfl) ?_
    refine D_move GC.none (OpV.t rfl) ?_
    refine D_bin GC.none OpV.c (OpV.t rfl) (fun hg => bv_mul) ?_
    refine D_bin GC.none (OpV.t rfl) OpV.c (fun hg => bv_add) ?_
    refine D_idxS GC.none (OpV.t rfl) (OpV.t rfl) str9 (fun hg => hy8) ?_
    refine D_convInt GC.none (OpV.t rfl) und3 (by rw [und5]; rfl) ?_
    refine D_bin GC.none (OpV.t rfl) (OpV.t rfl) (fun hg => bv_or) ?_
    refine DV_nil ?_
    refine Give_is rfl rfl ?_
    refine Give_drop rfl ?_
    refine Give_drop rfl ?_
    refine Give_drop rfl ?_
    refine Give_drop rfl ?_
    refine Give_drop rfl ?_
    refine Give_drop rfl ?_
    refine Give_drop rfl ?_
    refine Give_drop rfl ?_
    refine Give_drop rfl ?_
    refine Give_drop rfl ?_
    refine Give_drop rfl ?_
    refine Give_drop rfl ?_
    refine Give_drop rfl ?_
    refine Give_drop rfl ?_
    refine Give_drop rfl ?_
    refine Give_drop rfl ?_
    refine Give_drop rfl ?_
    refine Give_drop rfl ?_
    refine Give_drop rfl ?_
    refine Give_drop rfl ?_
    refine Give_drop rfl ?_
    refine Give_drop rfl ?_
    refine Give_drop rfl ?_
    refine Give_drop rfl ?_
    refine Give_drop rfl ?_
    refine Give_drop rfl ?_
    refine Give_drop rfl ?_
    refine Give_drop rfl ?_
    refine Give_is rfl rfl ?_
    refine Give_is rfl rfl ?_
    refine Give_nil ?_
    have ho := hp; clear hp; obtain ⟨u9, hy9, hp⟩ := idx_bind ho; clear ho
    refine L_idxA (X := v3_0) rfl rfl rfl el143 (RdT.tree (by first | (with_reducible repeat (first | exact List.Mem.head _ | apply List.Mem.tail)); done | (repeat (first | exact List.Mem.head _ | apply List.Mem.tail)))) hy9 ?_
    refine L_conv (M' := treeH u9 :: holeH v3_0 (v3_1.toNat) (GT.cells u9) :: _) (fun w h => hole_open hy9.2 (by first | (with_reducible repeat (first | exact Pick.here _ | apply Pick.there)); done | (repeat (first | exact Pick.here _ | apply Pick.there))) h) ?_
    refine L_stH (X := v3_0) (i := v3_1.toNat) (sz := 1) (fo := 0) (n := 1) rfl rfl (by first | (with_reducible repeat (first | exact Pick.here _ | apply Pick.there)); done | (repeat (first | exact Pick.here _ | apply Pick.there))) rfl (.inr ⟨one3, rfl⟩) rfl (allOne rfl) (Nat.le_of_ble_eq_true rfl) ?_
    refine L_conv (M' := treeH (bits .or .i64 (bits .or .i64 (bits .or .i64 (IntKind.wrap .i64 (IntKind.wrap .i64 y5 * 2 ^ (24 : Int).toNat)) (IntKind.wrap .i64 (IntKind.wrap .i64 y6 * 2 ^ (16 : Int).toNat))) (IntKind.wrap .i64 (IntKind.wrap .i64 y7 * 2 ^ (8 : Int).toNat))) (IntKind.wrap .i64 y8) : Int) :: _) (fun w h => addF (bits .or .i64 (bits .or .i64 (bits .or .i64 (IntKind.wrap .i64 (IntKind.wrap .i64 y5 * 2 ^ (24 : Int).toNat)) (IntKind.wrap .i64 (IntKind.wrap .i64 y6 * 2 ^ (16 : Int).toNat))) (IntKind.wrap .i64 (IntKind.wrap .i64 y7 * 2 ^ (8 : Int).toNat))) (IntKind.wrap .i64 y8) : Int) h) ?_
    have ho := hp; clear hp; obtain ⟨y10, hy10, hp⟩ := bind_any ho; clear ho
    refine L_close (X := v3_0) (bits .or .i64 (bits .or .i64 (bits .or .i64 (IntKind.wrap .i64 (IntKind.wrap .i64 y5 * 2 ^ (24 : Int).toNat)) (IntKind.wrap .i64 (IntKind.wrap .i64 y6 * 2 ^ (16 : Int).toNat))) (IntKind.wrap .i64 (IntKind.wrap .i64 y7 * 2 ^ (8 : Int).toNat))) (IntKind.wrap .i64 y8) : Int) rfl (by first | (with_reducible repeat (first | exact Pick.here _ | apply Pick.there)); done | (repeat (first | exact Pick.here _ | apply Pick.there))) (by first | (with_reducible repeat (first | exact Pick.here _ | apply Pick.there)); done | (repeat (first | exact Pick.here _ | apply Pick.there))) hy10 (fun X11 hdX11 hhX11 => ?_)
    subst hdX11
    try rw [← hhX11]
    refine L_nil ?_
    refine W_region ?_
    refine L_move rfl rfl ?_
    refine L_binV rfl rfl rfl bv_add ?_
    refine L_assign rfl rfl ?_
    refine L_nil ?_
    exact ⟨(X11, IntKind.wrap .i64 (v3_1 + 1)), (Sub.cons rfl (Sub.cons rfl (Sub.cons rfl (Sub.cons rfl (Sub.cons rfl (Sub.nil _)))))), (Arr.sub (MSub.cons (by first | (with_reducible repeat (first | exact Pick.here _ | apply Pick.there)); done | (repeat (first | exact Pick.here _ | apply Pick.there))) (MSub.nil _))), some_eq hp⟩
  · skip
    replace hp := cond_f hc4 hp
    refine W_exit ?_
    have ho := hp; clear hp; obtain ⟨a12, hp, hx_a12⟩ := map_any ho; clear ho
    obtain rfl := hx3 _ hx_a12
    refine W_seq ?_
    refine W_seq ?_
    refine W_region ?_
    refine L_assign rfl rfl ?_
    refine L_nil ?_
    refine W_block ?_
    refine W_while (σ := (TL Int) × Int) GT.dat (fun ((v13_0, v13_1) : (TL Int) × Int) => [(7, (TL.hdr v13_0)), (9, .int .i64 v13_1)]) (fun ((v13_0, v13_1) : (TL Int) × Int) => [treeH v13_0]) [(0, _), (2, _)] [] (v3_0, 16) hp (Sub.cons rfl (Sub.cons rfl (Sub.cons rfl (Sub.cons rfl (Sub.nil _))))) (MSub.cons (by first | (with_reducible repeat (first | exact Pick.here _ | apply Pick.there)); done | (repeat (first | exact Pick.here _ | apply Pick.there))) (MSub.nil _)) ?_
    clear hp
    rintro ⟨v13_0, v13_1⟩ x13 hp hx13
    try dsimp only [dat_pair, dat_int, dat_bool, dat_str, dat_ar] at hp
    refine W_weaken (l' := [(0, _), (2, _), (7, _), (9, _)]) (Sub.cons rfl (Sub.cons rfl (Sub.cons rfl (Sub.cons rfl (Sub.nil _))))) (M' := [_]) (MSub.cons (by first | (with_reducible repeat (first | exact Pick.here _ | apply Pick.there)); done | (repeat (first | exact Pick.here _ | apply Pick.there))) (MSub.nil _)) ?_
    refine W_seq ?_
    refine W_seq ?_
    refine W_region ?_
    refine L_move rfl rfl ?_
    refine L_binV rfl rfl rfl bv_lss ?_
    refine L_nil ?_
    refine W_weaken (l' := [(0, _), (2, _), (7, _), (9, _), (58, _)]) (Sub.cons rfl (Sub.cons rfl (Sub.cons rfl (Sub.cons rfl (Sub.cons rfl (Sub.nil _)))))) (MSub.refl _) ?_
    refine W_cond rfl (fun hc14 => ?_) (fun hc14 => ?_)
    · skip
      replace hp := cond_t hc14 hp
      refine W_skip ?_
      refine W_seq ?_
      refine W_block ?_
      refine W_seq ?_
      have ho := hp; clear hp; obtain ⟨u15, hy15, hp⟩ := idx_bind ho; clear ho
      have ho := hp; clear hp; obtain ⟨y16, hy16, hp⟩ := bind_any ho; clear ho
      have ho := hp; clear hp; obtain ⟨u17, hy17, hp⟩ := idx_bind ho; clear ho
      obtain rfl : u15 = u17 := Option.some.inj (hy15.2.symm.trans hy17.2)
      have ho := hp; clear hp; obtain ⟨y18, hy18, hp⟩ := bind_any ho; clear ho
      have ho := hp; clear hp; obtain ⟨u19, hy19, hp⟩ := idx_bind ho; clear ho
      obtain rfl : u15 = u19 := Option.some.inj (hy15.2.symm.trans hy19.2)
      refine W_D0 [10] mix (by kernel_rfl) rfl ?_
      refine D_move GC.none (OpV.t rfl) ?_
      refine D_move GC.none (OpV.t rfl) ?_
      refine D_bin GC.none (OpV.t rfl) OpV.c (fun hg => bv_sub) ?_
      refine D_idxA (X := v13_0) GC.none (OpV.t rfl) (OpV.t rfl) el143 (RdT.tree (by first | (with_reducible repeat (first | exact List.Mem.head _ | apply List.Mem.tail)); done | (repeat (first | exact List.Mem.head _ | apply List.Mem.tail)))) (fun _ => hy15) ?_
      refine D_load0 GC.none (OpV.t rfl) (fun hg => RdT.at (RdT.tree (by first | (with_reducible repeat (first | exact List.Mem.head _ | apply List.Mem.tail)); done | (repeat (first | exact List.Mem.head _ | apply List.Mem.tail)))) (hy15).2) one3 rfl ?_
      refine D_callX GC.none fn142 (OpVs.cons (OpV.t rfl) (OpVs.cons OpV.c (OpVs.nil))) (by exact fun hg w F hF hM => s_l3Right_walk w u15 7  _ hy16) ?_
      refine D_move GC.none (OpV.t rfl) ?_
      refine D_move GC.none (OpV.t rfl) ?_
      refine D_bin GC.none (OpV.t rfl) OpV.c (fun hg => bv_sub) ?_
      refine D_idxA (X := v13_0) GC.none (OpV.t rfl) (OpV.t rfl) el143 (RdT.tree (by first | (with_reducible repeat (first | exact List.Mem.head _ | apply List.Mem.tail)); done | (repeat (first | exact List.Mem.head _ | apply List.Mem.tail)))) (fun _ => hy15) ?_
      refine D_load0 GC.none (OpV.t rfl) (fun hg => RdT.at (RdT.tree (by first | (with_reducible repeat (first | exact List.Mem.head _ | apply List.Mem.tail)); done | (repeat (first | exact List.Mem.head _ | apply List.Mem.tail)))) (hy15).2) one3 rfl ?_
      refine D_callX GC.none fn142 (OpVs.cons (OpV.t rfl) (OpVs.cons OpV.c (OpVs.nil))) (by exact fun hg w F hF hM => s_l3Right_walk w u15 18  _ hy18) ?_
      refine D_bin GC.none (OpV.t rfl) (OpV.t rfl) (fun hg => bv_xor) ?_
      refine D_move GC.none (OpV.t rfl) ?_
      refine D_move GC.none (OpV.t rfl) ?_
      refine D_bin GC.none (OpV.t rfl) OpV.c (fun hg => bv_sub) ?_
      refine D_idxA (X := v13_0) GC.none (OpV.t rfl) (OpV.t rfl) el143 (RdT.tree (by first | (with_reducible repeat (first | exact List.Mem.head _ | apply List.Mem.tail)); done | (repeat (first | exact List.Mem.head _ | apply List.Mem.tail)))) (fun _ => hy15) ?_
      refine D_load0 GC.none (OpV.t rfl) (fun hg => RdT.at (RdT.tree (by first | (with_reducible repeat (first | exact List.Mem.head _ | apply List.Mem.tail)); done | (repeat (first | exact List.Mem.head _ | apply List.Mem.tail)))) (hy15).2) one3 rfl ?_
      refine D_bin GC.none (OpV.t rfl) OpV.c (fun hg => (bv_shr (by decide) (by decide))) ?_
      refine D_bin GC.none (OpV.t rfl) (OpV.t rfl) (fun hg => bv_xor) ?_
      refine D_assign GC.none (OpV.t rfl) ?_
      refine DV_nil ?_
      refine Give_is rfl rfl ?_
      refine Give_drop rfl ?_
      refine Give_drop rfl ?_
      refine Give_drop rfl ?_
      refine Give_drop rfl ?_
      refine Give_drop rfl ?_
      refine Give_drop rfl ?_
      refine Give_drop rfl ?_
      refine Give_drop rfl ?_
      refine Give_drop rfl ?_
      refine Give_drop rfl ?_
      refine Give_drop rfl ?_
      refine Give_drop rfl ?_
      refine Give_drop rfl ?_
      refine Give_drop rfl ?_
      refine Give_drop rfl ?_
      refine Give_drop rfl ?_
      refine Give_drop rfl ?_
      refine Give_drop rfl ?_
      refine Give_drop rfl ?_
      refine Give_drop rfl ?_
      refine Give_nil ?_
      refine W_seq ?_
      have ho := hp; clear hp; obtain ⟨u20, hy20, hp⟩ := idx_bind ho; clear ho
      have ho := hp; clear hp; obtain ⟨y21, hy21, hp⟩ := bind_any ho; clear ho
      have ho := hp; clear hp; obtain ⟨u22, hy22, hp⟩ := idx_bind ho; clear ho
      obtain rfl : u20 = u22 := Option.some.inj (hy20.2.symm.trans hy22.2)
      have ho := hp; clear hp; obtain ⟨y23, hy23, hp⟩ := bind_any ho; clear ho
      have ho := hp; clear hp; obtain ⟨u24, hy24, hp⟩ := idx_bind ho; clear ho
      obtain rfl : u20 = u24 := Option.some.inj (hy20.2.symm.trans hy24.2)
      refine W_D0 [11] mix (by kernel_rfl) rfl ?_
      refine D_move GC.none (OpV.t rfl) ?_
      refine D_move GC.none (OpV.t rfl) ?_
      refine D_bin GC.none (OpV.t rfl) OpV.c (fun hg => bv_sub) ?_
      refine D_idxA (X := v13_0) GC.none (OpV.t rfl) (OpV.t rfl) el143 (RdT.tree (by first | (with_reducible repeat (first | exact List.Mem.head _ | apply List.Mem.tail)); done | (repeat (first | exact List.Mem.head _ | apply List.Mem.tail)))) (fun _ => hy20) ?_
      refine D_load0 GC.none (OpV.t rfl) (fun hg => RdT.at (RdT.tree (by first | (with_reducible repeat (first | exact List.Mem.head _ | apply List.Mem.tail)); done | (repeat (first | exact List.Mem.head _ | apply List.Mem.tail)))) (hy20).2) one3 rfl ?_
      refine D_callX GC.none fn142 (OpVs.cons (OpV.t rfl) (OpVs.cons OpV.c (OpVs.nil))) (by exact fun hg w F hF hM => s_l3Right_walk w u20 17  _ hy21) ?_
      refine D_move GC.none (OpV.t rfl) ?_
      refine D_move GC.none (OpV.t rfl) ?_
      refine D_bin GC.none (OpV.t rfl) OpV.c (fun hg => bv_sub) ?_
      refine D_idxA (X := v13_0) GC.none (OpV.t rfl) (OpV.t rfl) el143 (RdT.tree (by first | (with_reducible repeat (first | exact List.Mem.head _ | apply List.Mem.tail)); done | (repeat (first | exact List.Mem.head _ | apply List.Mem.tail)))) (fun _ => hy20) ?_
      refine D_load0 GC.none (OpV.t rfl) (fun hg => RdT.at (RdT.tree (by first | (with_reducible repeat (first | exact List.Mem.head _ | apply List.Mem.tail)); done | (repeat (first | exact List.Mem.head _ | apply List.Mem.tail)))) (hy20).2) one3 rfl ?_
      refine D_callX GC.none fn142 (OpVs.cons (OpV.t rfl) (OpVs.cons OpV.c (OpVs.nil))) (by exact fun hg w F hF hM => s_l3Right_walk w u20 19  _ hy23) ?_
      refine D_bin GC.none (OpV.t rfl) (OpV.t rfl) (fun hg => bv_xor) ?_
      refine D_move GC.none (OpV.t rfl) ?_
      refine D_move GC.none (OpV.t rfl) ?_
      refine D_bin GC.none (OpV.t rfl) OpV.c (fun hg => bv_sub) ?_
      refine D_idxA (X := v13_0) GC.none (OpV.t rfl) (OpV.t rfl) el143 (RdT.tree (by first | (with_reducible repeat (first | exact List.Mem.head _ | apply List.Mem.tail)); done | (repeat (first | exact List.Mem.head _ | apply List.Mem.tail)))) (fun _ => hy20) ?_
      refine D_load0 GC.none (OpV.t rfl) (fun hg => RdT.at (RdT.tree (by first | (with_reducible repeat (first | exact List.Mem.head _ | apply List.Mem.tail)); done | (repeat (first | exact List.Mem.head _ | apply List.Mem.tail)))) (hy20).2) one3 rfl ?_
      refine D_bin GC.none (OpV.t rfl) OpV.c (fun hg => (bv_shr (by decide) (by decide))) ?_
      refine D_bin GC.none (OpV.t rfl) (OpV.t rfl) (fun hg => bv_xor) ?_
      refine D_assign GC.none (OpV.t rfl) ?_
      refine DV_nil ?_
      refine Give_is rfl rfl ?_
      refine Give_drop rfl ?_
      refine Give_drop rfl ?_
      refine Give_drop rfl ?_
      refine Give_drop rfl ?_
      refine Give_drop rfl ?_
      refine Give_drop rfl ?_
      refine Give_drop rfl ?_
      refine Give_drop rfl ?_
      refine Give_drop rfl ?_
      refine Give_drop rfl ?_
      refine Give_drop rfl ?_
      refine Give_drop rfl ?_
      refine Give_drop rfl ?_
      refine Give_drop rfl ?_
      refine Give_drop rfl ?_
      refine Give_drop rfl ?_
      refine Give_drop rfl ?_
      refine Give_drop rfl ?_
      refine Give_drop rfl ?_
      refine Give_drop rfl ?_
      refine Give_nil ?_
      have ho := hp; clear hp; obtain ⟨u25, hy25, hp⟩ := idx_bind ho; clear ho
      have ho := hp; clear hp; obtain ⟨u26, hy26, hp⟩ := idx_bind ho; clear ho
      have ho := hp; clear hp; obtain ⟨y27, hy27, hp⟩ := bind_any ho; clear ho
      refine W_DS (pre := [_, _, _, _, _, _, _, _, _, _, _, _, _, _, _, _, _, _]) (suf := [_, _]) [101, 102, 118] [] _ (perm_nil_left _) mix (by kernel_rfl) (by kernel_rfl) rfl ?_
      refine D_move GC.none (OpV.t rfl) ?_
      refine D_move GC.none (OpV.t rfl) ?_
      refine D_move GC.none (OpV.t rfl) ?_
      refine D_move GC.none (OpV.t rfl) ?_
      refine D_bin GC.none (OpV.t rfl) OpV.c (fun hg => bv_sub) ?_
      refine D_idxA (X := v13_0) GC.none (OpV.t rfl) (OpV.t rfl) el143 (RdT.tree (by first | (with_reducible repeat (first | exact List.Mem.head _ | apply List.Mem.tail)); done | (repeat (first | exact List.Mem.head _ | apply List.Mem.tail)))) (fun _ => hy25) ?_
      refine D_load0 GC.none (OpV.t rfl) (fun hg => RdT.at (RdT.tree (by first | (with_reducible repeat (first | exact List.Mem.head _ | apply List.Mem.tail)); done | (repeat (first | exact List.Mem.head _ | apply List.Mem.tail)))) (hy25).2) one3 rfl ?_
      refine D_move GC.none (OpV.t rfl) ?_
      refine D_bin GC.none (OpV.t rfl) (OpV.t rfl) (fun hg => bv_add) ?_
      refine D_move GC.none (OpV.t rfl) ?_
      refine D_move GC.none (OpV.t rfl) ?_
      refine D_bin GC.none (OpV.t rfl) OpV.c (fun hg => bv_sub) ?_
      refine D_idxA (X := v13_0) GC.none (OpV.t rfl) (OpV.t rfl) el143 (RdT.tree (by first | (with_reducible repeat (first | exact List.Mem.head _ | apply List.Mem.tail)); done | (repeat (first | exact List.Mem.head _ | apply List.Mem.tail)))) (fun _ => hy26) ?_
      refine D_load0 GC.none (OpV.t rfl) (fun hg => RdT.at (RdT.tree (by first | (with_reducible repeat (first | exact List.Mem.head _ | apply List.Mem.tail)); done | (repeat (first | exact List.Mem.head _ | apply List.Mem.tail)))) (hy26).2) one3 rfl ?_
      refine D_bin GC.none (OpV.t rfl) (OpV.t rfl) (fun hg => bv_add) ?_
      refine D_move GC.none (OpV.t rfl) ?_
      refine D_bin GC.none (OpV.t rfl) (OpV.t rfl) (fun hg => bv_add) ?_
      refine D_callX GC.none fn143 (OpVs.cons (OpV.t rfl) (OpVs.nil)) (by exact fun hg w F hF hM => s_l3Word_walk w (IntKind.wrap .i64 (IntKind.wrap .i64 (IntKind.wrap .i64 (u25 + bits .xor .i64 (bits .xor .i64 y16 y18) (u15 / 2 ^ (3 : Int).toNat)) + u26) + bits .xor .i64 (bits .xor .i64 y21 y23) (u20 / 2 ^ (10 : Int).toNat)))  _ hy27) ?_
      refine DV_nil ?_
      refine Give_is rfl rfl ?_
      refine Give_drop rfl ?_
      refine Give_drop rfl ?_
      refine Give_drop rfl ?_
      refine Give_drop rfl ?_
      refine Give_drop rfl ?_
      refine Give_drop rfl ?_
      refine Give_drop rfl ?_
      refine Give_drop rfl ?_
      refine Give_drop rfl ?_
      refine Give_drop rfl ?_
      refine Give_drop rfl ?_
      refine Give_drop rfl ?_
      refine Give_drop rfl ?_
      refine Give_drop rfl ?_
      refine Give_drop rfl ?_
      refine Give_is rfl rfl ?_
      refine Give_is rfl rfl ?_
      refine Give_nil ?_
      have ho := hp; clear hp; obtain ⟨u28, hy28, hp⟩ := idx_bind ho; clear ho
      refine L_idxA (X := v13_0) rfl rfl rfl el143 (RdT.tree (by first | (with_reducible repeat (first | exact List.Mem.head _ | apply List.Mem.tail)); done | (repeat (first | exact List.Mem.head _ | apply List.Mem.tail)))) hy28 ?_
      refine L_conv (M' := treeH u28 :: holeH v13_0 (v13_1.toNat) (GT.cells u28) :: _) (fun w h => hole_open hy28.2 (by first | (with_reducible repeat (first | exact Pick.here _ | apply Pick.there)); done | (repeat (first | exact Pick.here _ | apply Pick.there))) h) ?_
      refine L_stH (X := v13_0) (i := v13_1.toNat) (sz := 1) (fo := 0) (n := 1) rfl rfl (by first | (with_reducible repeat (first | exact Pick.here _ | apply Pick.there)); done | (repeat (first | exact Pick.here _ | apply Pick.there))) rfl (.inr ⟨one3, rfl⟩) rfl (allOne rfl) (Nat.le_of_ble_eq_true rfl) ?_
      refine L_conv (M' := treeH (y27 : Int) :: _) (fun w h => addF (y27 : Int) h) ?_
      have ho := hp; clear hp; obtain ⟨y29, hy29, hp⟩ := bind_any ho; clear ho
      refine L_close (X := v13_0) (y27 : Int) rfl (by first | (with_reducible repeat (first | exact Pick.here _ | apply Pick.there)); done | (repeat (first | exact Pick.here _ | apply Pick.there))) (by first | (with_reducible repeat (first | exact Pick.here _ | apply Pick.there)); done | (repeat (first | exact Pick.here _ | apply Pick.there))) hy29 (fun X30 hdX30 hhX30 => ?_)
      subst hdX30
      try rw [← hhX30]
      refine L_nil ?_
      refine W_region ?_
      refine L_move rfl rfl ?_
      refine L_binV rfl rfl rfl bv_add ?_
      refine L_assign rfl rfl ?_
      refine L_nil ?_
      exact ⟨(X30, IntKind.wrap .i64 (v13_1 + 1)), (Sub.cons rfl (Sub.cons rfl (Sub.cons rfl (Sub.cons rfl (Sub.nil _))))), (Arr.sub (MSub.cons (by first | (with_reducible repeat (first | exact Pick.here _ | apply Pick.there)); done | (repeat (first | exact Pick.here _ | apply Pick.there))) (MSub.nil _))), some_eq hp⟩
    · skip
      replace hp := cond_f hc14 hp
      refine W_exit ?_
      have ho := hp; clear hp; obtain ⟨a31, hp, hx_a31⟩ := map_any ho; clear ho
      obtain rfl := hx13 _ hx_a31
      refine W_seq ?_
      refine W_region ?_
      have ho := hp; clear hp; obtain ⟨y33, hy33, hp⟩ := bind_any ho; clear ho
      refine L_mk0 Int rfl el143 (fun X32 hdX32 => ?_)
      obtain rfl : GT.dat X32 = y33 := hdX32.trans (Option.some.inj hy33)
      clear hy33 hdX32
      refine L_move rfl rfl ?_
      have ho := hp; clear hp; obtain ⟨y35, hy35, hp⟩ := bind_any ho; clear ho
      refine L_appT (X := X32) (Y := a0) rfl rfl rfl el143 rfl rfl (by first | (with_reducible repeat (first | exact Pick.here _ | apply Pick.there)); done | (repeat (first | exact Pick.here _ | apply Pick.there))) (RdT.old h0) hy35 (by decide) (fun X34 hdX34 => ?_)
      subst hdX34
      refine L_assign rfl rfl ?_
      refine L_nil ?_
      refine W_seq ?_
      refine W_seq ?_
      refine W_region ?_
      refine L_assign rfl rfl ?_
      refine L_nil ?_
      refine W_block ?_
      refine W_while (σ := (TL Int) × Int) GT.dat (fun ((v36_0, v36_1) : (TL Int) × Int) => [(12, (TL.hdr v36_0)), (13, .int .i64 v36_1)]) (fun ((v36_0, v36_1) : (TL Int) × Int) => [treeH v36_0]) [(0, _), (2, _), (7, _)] [treeH v13_0] (X34, 0) hp (Sub.cons rfl (Sub.cons rfl (Sub.cons rfl (Sub.cons rfl (Sub.cons rfl (Sub.nil _)))))) (MSub.cons (by first | (with_reducible repeat (first | exact Pick.here _ | apply Pick.there)); done | (repeat (first | exact Pick.here _ | apply Pick.there))) (MSub.cons (by first | (with_reducible repeat (first | exact Pick.here _ | apply Pick.there)); done | (repeat (first | exact Pick.here _ | apply Pick.there))) (MSub.nil _))) ?_
      clear hp
      rintro ⟨v36_0, v36_1⟩ x36 hp hx36
      try dsimp only [dat_pair, dat_int, dat_bool, dat_str, dat_ar] at hp
      refine W_weaken (l' := [(0, _), (2, _), (7, _), (12, _), (13, _)]) (Sub.cons rfl (Sub.cons rfl (Sub.cons rfl (Sub.cons rfl (Sub.cons rfl (Sub.nil _)))))) (M' := [_, _]) (MSub.cons (by first | (with_reducible repeat (first | exact Pick.here _ | apply Pick.there)); done | (repeat (first | exact Pick.here _ | apply Pick.there))) (MSub.cons (by first | (with_reducible repeat (first | exact Pick.here _ | apply Pick.there)); done | (repeat (first | exact Pick.here _ | apply Pick.there))) (MSub.nil _))) ?_
      refine W_seq ?_
      refine W_seq ?_
      refine W_region ?_
      refine L_move rfl rfl ?_
      refine L_binV rfl rfl rfl bv_lss ?_
      refine L_nil ?_
      refine W_weaken (l' := [(0, _), (2, _), (7, _), (12, _), (13, _), (124, _)]) (Sub.cons rfl (Sub.cons rfl (Sub.cons rfl (Sub.cons rfl (Sub.cons rfl (Sub.cons rfl (Sub.nil _))))))) (MSub.refl _) ?_
      refine W_cond rfl (fun hc37 => ?_) (fun hc37 => ?_)
      · skip
        replace hp := cond_t hc37 hp
        refine W_skip ?_
        refine W_seq ?_
        refine W_block ?_
        refine W_seq ?_
        refine W_region ?_
        refine L_move rfl rfl ?_
        have ho := hp; clear hp; obtain ⟨u38, hy38, hp⟩ := idx_bind ho; clear ho
        refine L_idxA (X := v36_0) rfl rfl rfl el143 (RdT.tree (by first | (with_reducible repeat (first | exact List.Mem.head _ | apply List.Mem.tail)); done | (repeat (first | exact List.Mem.head _ | apply List.Mem.tail)))) hy38 ?_
        refine L_load0 rfl rfl (RdT.at (RdT.tree (by first | (with_reducible repeat (first | exact List.Mem.head _ | apply List.Mem.tail)); done | (repeat (first | exact List.Mem.head _ | apply List.Mem.tail)))) (hy38).2) one3 rfl ?_
        refine L_assign rfl rfl ?_
        refine L_nil ?_
        refine W_seq ?_
        refine W_region ?_
        refine L_move rfl rfl ?_
        have ho := hp; clear hp; obtain ⟨u39, hy39, hp⟩ := idx_bind ho; clear ho
        refine L_idxA (X := v36_0) rfl rfl rfl el143 (RdT.tree (by first | (with_reducible repeat (first | exact List.Mem.head _ | apply List.Mem.tail)); done | (repeat (first | exact List.Mem.head _ | apply List.Mem.tail)))) hy39 ?_
        refine L_load0 rfl rfl (RdT.at (RdT.tree (by first | (with_reducible repeat (first | exact List.Mem.head _ | apply List.Mem.tail)); done | (repeat (first | exact List.Mem.head _ | apply List.Mem.tail)))) (hy39).2) one3 rfl ?_
        refine L_assign rfl rfl ?_
        refine L_nil ?_
        refine W_seq ?_
        have ho := hp; clear hp; obtain ⟨u40, hy40, hp⟩ := idx_bind ho; clear ho
        have ho := hp; clear hp; obtain ⟨y41, hy41, hp⟩ := bind_any ho; clear ho
        have ho := hp; clear hp; obtain ⟨y42, hy42, hp⟩ := bind_any ho; clear ho
        have ho := hp; clear hp; obtain ⟨y43, hy43, hp⟩ := bind_any ho; clear ho
        have ho := hp; clear hp; obtain ⟨u44, hy44, hp⟩ := idx_bind ho; clear ho
        have ho := hp; clear hp; obtain ⟨y45, hy45, hp⟩ := bind_any ho; clear ho
        have ho := hp; clear hp; obtain ⟨u46, hy46, hp⟩ := idx_bind ho; clear ho
        have ho := hp; clear hp; obtain ⟨u47, hy47, hp⟩ := idx_bind ho; clear ho
        have ho := hp; clear hp; obtain ⟨u48, hy48, hp⟩ := idx_bind ho; clear ho
        refine W_D0 [16] mix (by kernel_rfl) rfl ?_
        refine D_move GC.none (OpV.t rfl) ?_
        refine D_idxA (X := v36_0) GC.none (OpV.t rfl) OpV.c el143 (RdT.tree (by first | (with_reducible repeat (first | exact List.Mem.head _ | apply List.Mem.tail)); done | (repeat (first | exact List.Mem.head _ | apply List.Mem.tail)))) (fun _ => hy40) ?_
        refine D_load0 GC.none (OpV.t rfl) (fun hg => RdT.at (RdT.tree (by first | (with_reducible repeat (first | exact List.Mem.head _ | apply List.Mem.tail)); done | (repeat (first | exact List.Mem.head _ | apply List.Mem.tail)))) (hy40).2) one3 rfl ?_
        refine D_move GC.none (OpV.t rfl) ?_
        refine D_callX GC.none fn142 (OpVs.cons (OpV.t rfl) (OpVs.cons OpV.c (OpVs.nil))) (by exact fun hg w F hF hM => s_l3Right_walk w u38 6  _ hy41) ?_
        refine D_move GC.none (OpV.t rfl) ?_
        refine D_callX GC.none fn142 (OpVs.cons (OpV.t rfl) (OpVs.cons OpV.c (OpVs.nil))) (by exact fun hg w F hF hM => s_l3Right_walk w u38 11  _ hy42) ?_
        refine D_bin GC.none (OpV.t rfl) (OpV.t rfl) (fun hg => bv_xor) ?_
        refine D_move GC.none (OpV.t rfl) ?_
        refine D_callX GC.none fn142 (OpVs.cons (OpV.t rfl) (OpVs.cons OpV.c (OpVs.nil))) (by exact fun hg w F hF hM => s_l3Right_walk w u38 25  _ hy43) ?_
        refine D_bin GC.none (OpV.t rfl) (OpV.t rfl) (fun hg => bv_xor) ?_
        refine D_bin GC.none (OpV.t rfl) (OpV.t rfl) (fun hg => bv_add) ?_
        refine D_move GC.none (OpV.t rfl) ?_
        refine D_move GC.none (OpV.t rfl) ?_
        refine D_idxA (X := v36_0) GC.none (OpV.t rfl) OpV.c el143 (RdT.tree (by first | (with_reducible repeat (first | exact List.Mem.head _ | apply List.Mem.tail)); done | (repeat (first | exact List.Mem.head _ | apply List.Mem.tail)))) (fun _ => hy44) ?_
        refine D_load0 GC.none (OpV.t rfl) (fun hg => RdT.at (RdT.tree (by first | (with_reducible repeat (first | exact List.Mem.head _ | apply List.Mem.tail)); done | (repeat (first | exact List.Mem.head _ | apply List.Mem.tail)))) (hy44).2) one3 rfl ?_
        refine D_bin GC.none (OpV.t rfl) (OpV.t rfl) (fun hg => bv_and) ?_
        refine D_move GC.none (OpV.t rfl) ?_
        refine D_xorU GC.none (OpV.t rfl) ?_
        refine D_callX GC.none fn143 (OpVs.cons (OpV.t rfl) (OpVs.nil)) (by exact fun hg w F hF hM => s_l3Word_walk w (bits .xor .i64 (if IntKind.signed .i64 then -1 else IntKind.max .i64) u38)  _ hy45) ?_
        refine D_move GC.none (OpV.t rfl) ?_
        refine D_idxA (X := v36_0) GC.none (OpV.t rfl) OpV.c el143 (RdT.tree (by first | (with_reducible repeat (first | exact List.Mem.head _ | apply List.Mem.tail)); done | (repeat (first | exact List.Mem.head _ | apply List.Mem.tail)))) (fun _ => hy46) ?_
        refine D_load0 GC.none (OpV.t rfl) (fun hg => RdT.at (RdT.tree (by first | (with_reducible repeat (first | exact List.Mem.head _ | apply List.Mem.tail)); done | (repeat (first | exact List.Mem.head _ | apply List.Mem.tail)))) (hy46).2) one3 rfl ?_
        refine D_bin GC.none (OpV.t rfl) (OpV.t rfl) (fun hg => bv_and) ?_
        refine D_bin GC.none (OpV.t rfl) (OpV.t rfl) (fun hg => bv_xor) ?_
        refine D_bin GC.none (OpV.t rfl) (OpV.t rfl) (fun hg => bv_add) ?_
        refine D_move GC.none (OpV.t rfl) ?_
        refine D_move GC.none (OpV.t rfl) ?_
        refine D_idxA (X := a2) GC.none (OpV.t rfl) (OpV.t rfl) el143 (RdT.old h2) (fun _ => hy47) ?_
        refine D_load0 GC.none (OpV.t rfl) (fun hg => RdT.at (RdT.old h2) (hy47).2) one3 rfl ?_
        refine D_bin GC.none (OpV.t rfl) (OpV.t rfl) (fun hg => bv_add) ?_
        refine D_move GC.none (OpV.t rfl) ?_
        refine D_move GC.none (OpV.t rfl) ?_
        refine D_idxA (X := v13_0) GC.none (OpV.t rfl) (OpV.t rfl) el143 (RdT.tree (by first | (with_reducible repeat (first | exact List.Mem.head _ | apply List.Mem.tail)); done | (repeat (first | exact List.Mem.head _ | apply List.Mem.tail)))) (fun _ => hy48) ?_
        refine D_load0 GC.none (OpV.t rfl) (fun hg => RdT.at (RdT.tree (by first | (with_reducible repeat (first | exact List.Mem.head _ | apply List.Mem.tail)); done | (repeat (first | exact List.Mem.head _ | apply List.Mem.tail)))) (hy48).2) one3 rfl ?_
        refine D_bin GC.none (OpV.t rfl) (OpV.t rfl) (fun hg => bv_add) ?_
        refine D_assign GC.none (OpV.t rfl) ?_
        refine DV_nil ?_
        refine Give_is rfl rfl ?_
        refine Give_drop rfl ?_
        refine Give_drop rfl ?_
        refine Give_drop rfl ?_
        refine Give_drop rfl ?_
        refine Give_drop rfl ?_
        refine Give_drop rfl ?_
        refine Give_drop rfl ?_
        refine Give_drop rfl ?_
        refine Give_drop rfl ?_
        refine Give_drop rfl ?_
        refine Give_drop rfl ?_
        refine Give_drop rfl ?_
        refine Give_drop rfl ?_
        refine Give_drop rfl ?_
        refine Give_drop rfl ?_
        refine Give_drop rfl ?_
        refine Give_drop rfl ?_
        refine Give_drop rfl ?_
        refine Give_drop rfl ?_
        refine Give_drop rfl ?_
        refine Give_drop rfl ?_
        refine Give_drop rfl ?_
        refine Give_drop rfl ?_
        refine Give_drop rfl ?_
        refine Give_drop rfl ?_
        refine Give_drop rfl ?_
        refine Give_drop rfl ?_
        refine Give_drop rfl ?_
        refine Give_drop rfl ?_
        refine Give_drop rfl ?_
        refine Give_drop rfl ?_
        refine Give_drop rfl ?_
        refine Give_drop rfl ?_
        refine Give_drop rfl ?_
        refine Give_drop rfl ?_
        refine Give_drop rfl ?_
        refine Give_nil ?_
        refine W_seq ?_
        have ho := hp; clear hp; obtain ⟨y49, hy49, hp⟩ := bind_any ho; clear ho
        have ho := hp; clear hp; obtain ⟨y50, hy50, hp⟩ := bind_any ho; clear ho
        have ho := hp; clear hp; obtain ⟨y51, hy51, hp⟩ := bind_any ho; clear ho
        have ho := hp; clear hp; obtain ⟨u52, hy52, hp⟩ := idx_bind ho; clear ho
        have ho := hp; clear hp; obtain ⟨u53, hy53, hp⟩ := idx_bind ho; clear ho
        have ho := hp; clear hp; obtain ⟨u54, hy54, hp⟩ := idx_bind ho; clear ho
        obtain rfl : u52 = u54 := Option.some.inj (hy52.2.symm.trans hy54.2)
        have ho := hp; clear hp; obtain ⟨u55, hy55, hp⟩ := idx_bind ho; clear ho
        obtain rfl : u53 = u55 := Option.some.inj (hy53.2.symm.trans hy55.2)
        refine W_D0 [17] mix (by kernel_rfl) rfl ?_
        refine D_move GC.none (OpV.t rfl) ?_
        refine D_callX GC.none fn142 (OpVs.cons (OpV.t rfl) (OpVs.cons OpV.c (OpVs.nil))) (by exact fun hg w F hF hM => s_l3Right_walk w u39 2  _ hy49) ?_
        refine D_move GC.none (OpV.t rfl) ?_
        refine D_callX GC.none fn142 (OpVs.cons (OpV.t rfl) (OpVs.cons OpV.c (OpVs.nil))) (by exact fun hg w F hF hM => s_l3Right_walk w u39 13  _ hy50) ?_
        refine D_bin GC.none (OpV.t rfl) (OpV.t rfl) (fun hg => bv_xor) ?_
        refine D_move GC.none (OpV.t rfl) ?_
        refine D_callX GC.none fn142 (OpVs.cons (OpV.t rfl) (OpVs.cons OpV.c (OpVs.nil))) (by exact fun hg w F hF hM => s_l3Right_walk w u39 22  _ hy51) ?_
        refine D_bin GC.none (OpV.t rfl) (OpV.t rfl) (fun hg => bv_xor) ?_
        refine D_move GC.none (OpV.t rfl) ?_
        refine D_move GC.none (OpV.t rfl) ?_
        refine D_idxA (X := v36_0) GC.none (OpV.t rfl) OpV.c el143 (RdT.tree (by first | (with_reducible repeat (first | exact List.Mem.head _ | apply List.Mem.tail)); done | (repeat (first | exact List.Mem.head _ | apply List.Mem.tail)))) (fun _ => hy52) ?_
        refine D_load0 GC.none (OpV.t rfl) (fun hg => RdT.at (RdT.tree (by first | (with_reducible repeat (first | exact List.Mem.head _ | apply List.Mem.tail)); done | (repeat (first | exact List.Mem.head _ | apply List.Mem.tail)))) (hy52).2) one3 rfl ?_
        refine D_bin GC.none (OpV.t rfl) (OpV.t rfl) (fun hg => bv_and) ?_
        refine D_move GC.none (OpV.t rfl) ?_
        refine D_move GC.none (OpV.t rfl) ?_
        refine D_idxA (X := v36_0) GC.none (OpV.t rfl) OpV.c el143 (RdT.tree (by first | (with_reducible repeat (first | exact List.Mem.head _ | apply List.Mem.tail)); done | (repeat (first | exact List.Mem.head _ | apply List.Mem.tail)))) (fun _ => hy53) ?_
        refine D_load0 GC.none (OpV.t rfl) (fun hg => RdT.at (RdT.tree (by first | (with_reducible repeat (first | exact List.Mem.head _ | apply List.Mem.tail)); done | (repeat (first | exact List.Mem.head _ | apply List.Mem.tail)))) (hy53).2) one3 rfl ?_
        refine D_bin GC.none (OpV.t rfl) (OpV.t rfl) (fun hg => bv_and) ?_
        refine D_bin GC.none (OpV.t rfl) (OpV.t rfl) (fun hg => bv_xor) ?_
        refine D_move GC.none (OpV.t rfl) ?_
        refine D_idxA (X := v36_0) GC.none (OpV.t rfl) OpV.c el143 (RdT.tree (by first | (with_reducible repeat (first | exact List.Mem.head _ | apply List.Mem.tail)); done | (repeat (first | exact List.Mem.head _ | apply List.Mem.tail)))) (fun _ => hy52) ?_
        refine D_load0 GC.none (OpV.t rfl) (fun hg => RdT.at (RdT.tree (by first | (with_reducible repeat (first | exact List.Mem.head _ | apply List.Mem.tail)); done | (repeat (first | exact List.Mem.head _ | apply List.Mem.tail)))) (hy52).2) one3 rfl ?_
        refine D_move GC.none (OpV.t rfl) ?_
        refine D_idxA (X := v36_0) GC.none (OpV.t rfl) OpV.c el143 (RdT.tree (by first | (with_reducible repeat (first | exact List.Mem.head _ | apply List.Mem.tail)); done | (repeat (first | exact List.Mem.head _ | apply List.Mem.tail)))) (fun _ => hy53) ?_
        refine D_load0 GC.none (OpV.t rfl) (fun hg => RdT.at (RdT.tree (by first | (with_reducible repeat (first | exact List.Mem.head _ | apply List.Mem.tail)); done | (repeat (first | exact List.Mem.head _ | apply List.Mem.tail)))) (hy53).2) one3 rfl ?_
        refine D_bin GC.none (OpV.t rfl) (OpV.t rfl) (fun hg => bv_and) ?_
        refine D_bin GC.none (OpV.t rfl) (OpV.t rfl) (fun hg => bv_xor) ?_
        refine D_bin GC.none (OpV.t rfl) (OpV.t rfl) (fun hg => bv_add) ?_
        refine D_assign GC.none (OpV.t rfl) ?_
        refine DV_nil ?_
        refine Give_is rfl rfl ?_
        refine Give_drop rfl ?_
        refine Give_drop rfl ?_
        refine Give_drop rfl ?_
        refine Give_drop rfl ?_
        refine Give_drop rfl ?_
        refine Give_drop rfl ?_
        refine Give_drop rfl ?_
        refine Give_drop rfl ?_
        refine Give_drop rfl ?_
        refine Give_drop rfl ?_
        refine Give_drop rfl ?_
        refine Give_drop rfl ?_
        refine Give_drop rfl ?_
        refine Give_drop rfl ?_
        refine Give_drop rfl ?_
        refine Give_drop rfl ?_
        refine Give_drop rfl ?_
        refine Give_drop rfl ?_
        refine Give_drop rfl ?_
        refine Give_drop rfl ?_
        refine Give_drop rfl ?_
        refine Give_drop rfl ?_
        refine Give_drop rfl ?_
        refine Give_drop rfl ?_
        refine Give_drop rfl ?_
        refine Give_drop rfl ?_
        refine Give_drop rfl ?_
        refine Give_drop rfl ?_
        refine Give_nil ?_
        have ho := hp; clear hp; obtain ⟨y56, hy56, hp⟩ := bind_any ho; clear ho
        have ho := hp; clear hp; obtain ⟨u57, hy57, hp⟩ := idx_bind ho; clear ho
        obtain rfl : u39 = u57 := Option.some.inj (hy39.2.symm.trans hy57.2)
        have ho := hp; clear hp; obtain ⟨u58, hy58, hp⟩ := idx_bind ho; clear ho
        obtain rfl : u52 = u58 := Option.some.inj (hy52.2.symm.trans hy58.2)
        have ho := hp; clear hp; obtain ⟨u59, hy59, hp⟩ := idx_bind ho; clear ho
        obtain rfl : u53 = u59 := Option.some.inj (hy53.2.symm.trans hy59.2)
        have ho := hp; clear hp; obtain ⟨u60, hy60, hp⟩ := idx_bind ho; clear ho
        have ho := hp; clear hp; obtain ⟨y61, hy61, hp⟩ := bind_any ho; clear ho
        have ho := hp; clear hp; obtain ⟨u62, hy62, hp⟩ := idx_bind ho; clear ho
        obtain rfl : u38 = u62 := Option.some.inj (hy38.2.symm.trans hy62.2)
        have ho := hp; clear hp; obtain ⟨u63, hy63, hp⟩ := idx_bind ho; clear ho
        obtain rfl : u44 = u63 := Option.some.inj (hy44.2.symm.trans hy63.2)
        have ho := hp; clear hp; obtain ⟨u64, hy64, hp⟩ := idx_bind ho; clear ho
        obtain rfl : u46 = u64 := Option.some.inj (hy46.2.symm.trans hy64.2)
        refine W_DS (pre := [_, _, _, _, _, _, _, _, _, _, _, _, _, _, _, _, _, _, _, _, _, _, _, _, _, _, _, _]) (suf := [_, _]) [200, 203, 206, 209, 215, 218, 221, 224] [] _ (perm_nil_left _) mix (by kernel_rfl) (by kernel_rfl) rfl ?_
        refine D_move GC.none (OpV.t rfl) ?_
        refine D_move GC.none (OpV.t rfl) ?_
        refine D_bin GC.none (OpV.t rfl) (OpV.t rfl) (fun hg => bv_add) ?_
        refine D_callX GC.none fn143 (OpVs.cons (OpV.t rfl) (OpVs.nil)) (by exact fun hg w F hF hM => s_l3Word_walk w (IntKind.wrap .i64 (IntKind.wrap .i64 (IntKind.wrap .i64 (IntKind.wrap .i64 (IntKind.wrap .i64 (u40 + bits .xor .i64 (bits .xor .i64 y41 y42) y43) + bits .xor .i64 (bits .and .i64 u38 u44) (bits .and .i64 y45 u46)) + u47) + u48) + IntKind.wrap .i64 (bits .xor .i64 (bits .xor .i64 y49 y50) y51 + bits .xor .i64 (bits .xor .i64 (bits .and .i64 u39 u52) (bits .and .i64 u39 u53)) (bits .and .i64 u52 u53))))  _ hy56) ?_
        refine D_move GC.none (OpV.t rfl) ?_
        refine D_idxA (X := v36_0) GC.none (OpV.t rfl) OpV.c el143 (RdT.tree (by first | (with_reducible repeat (first | exact List.Mem.head _ | apply List.Mem.tail)); done | (repeat (first | exact List.Mem.head _ | apply List.Mem.tail)))) (fun _ => hy39) ?_
        refine D_load0 GC.none (OpV.t rfl) (fun hg => RdT.at (RdT.tree (by first | (with_reducible repeat (first | exact List.Mem.head _ | apply List.Mem.tail)); done | (repeat (first | exact List.Mem.head _ | apply List.Mem.tail)))) (hy39).2) one3 rfl ?_
        refine D_move GC.none (OpV.t rfl) ?_
        refine D_idxA (X := v36_0) GC.none (OpV.t rfl) OpV.c el143 (RdT.tree (by first | (with_reducible repeat (first | exact List.Mem.head _ | apply List.Mem.tail)); done | (repeat (first | exact List.Mem.head _ | apply List.Mem.tail)))) (fun _ => hy52) ?_
        refine D_load0 GC.none (OpV.t rfl) (fun hg => RdT.at (RdT.tree (by first | (with_reducible repeat (first | exact List.Mem.head _ | apply List.Mem.tail)); done | (repeat (first | exact List.Mem.head _ | apply List.Mem.tail)))) (hy52).2) one3 rfl ?_
        refine D_move GC.none (OpV.t rfl) ?_
        refine D_idxA (X := v36_0) GC.none (OpV.t rfl) OpV.c el143 (RdT.tree (by first | (with_reducible repeat (first | exact List.Mem.head _ | apply List.Mem.tail)); done | (repeat (first | exact List.Mem.head _ | apply List.Mem.tail)))) (fun _ => hy53) ?_
        refine D_load0 GC.none (OpV.t rfl) (fun hg => RdT.at (RdT.tree (by first | (with_reducible repeat (first | exact List.Mem.head _ | apply List.Mem.tail)); done | (repeat (first | exact List.Mem.head _ | apply List.Mem.tail)))) (hy53).2) one3 rfl ?_
        refine D_move GC.none (OpV.t rfl) ?_
        refine D_idxA (X := v36_0) GC.none (OpV.t rfl) OpV.c el143 (RdT.tree (by first | (with_reducible repeat (first | exact List.Mem.head _ | apply List.Mem.tail)); done | (repeat (first | exact List.Mem.head _ | apply List.Mem.tail)))) (fun _ => hy60) ?_
        refine D_load0 GC.none (OpV.t rfl) (fun hg => RdT.at (RdT.tree (by first | (with_reducible repeat (first | exact List.Mem.head _ | apply List.Mem.tail)); done | (repeat (first | exact List.Mem.head _ | apply List.Mem.tail)))) (hy60).2) one3 rfl ?_
        refine D_move GC.none (OpV.t rfl) ?_
        refine D_bin GC.none (OpV.t rfl) (OpV.t rfl) (fun hg => bv_add) ?_
        refine D_callX GC.none fn143 (OpVs.cons (OpV.t rfl) (OpVs.nil)) (by exact fun hg w F hF hM => s_l3Word_walk w (IntKind.wrap .i64 (u60 + IntKind.wrap .i64 (IntKind.wrap .i64 (IntKind.wrap .i64 (IntKind.wrap .i64 (u40 + bits .xor .i64 (bits .xor .i64 y41 y42) y43) + bits .xor .i64 (bits .and .i64 u38 u44) (bits .and .i64 y45 u46)) + u47) + u48)))  _ hy61) ?_
        refine D_move GC.none (OpV.t rfl) ?_
        refine D_idxA (X := v36_0) GC.none (OpV.t rfl) OpV.c el143 (RdT.tree (by first | (with_reducible repeat (first | exact List.Mem.head _ | apply List.Mem.tail)); done | (repeat (first | exact List.Mem.head _ | apply List.Mem.tail)))) (fun _ => hy38) ?_
        refine D_load0 GC.none (OpV.t rfl) (fun hg => RdT.at (RdT.tree (by first | (with_reducible repeat (first | exact List.Mem.head _ | apply List.Mem.tail)); done | (repeat (first | exact List.Mem.head _ | apply List.Mem.tail)))) (hy38).2) one3 rfl ?_
        refine D_move GC.none (OpV.t rfl) ?_
        refine D_idxA (X := v36_0) GC.none (OpV.t rfl) OpV.c el143 (RdT.tree (by first | (with_reducible repeat (first | exact List.Mem.head _ | apply List.Mem.tail)); done | (repeat (first | exact List.Mem.head _ | apply List.Mem.tail)))) (fun _ => hy44) ?_
        refine D_load0 GC.none (OpV.t rfl) (fun hg => RdT.at (RdT.tree (by first | (with_reducible repeat (first | exact List.Mem.head _ | apply List.Mem.tail)); done | (repeat (first | exact List.Mem.head _ | apply List.Mem.tail)))) (hy44).2) one3 rfl ?_
        refine D_move GC.none (OpV.t rfl) ?_
        refine D_idxA (X := v36_0) GC.none (OpV.t rfl) OpV.c el143 (RdT.tree (by first | (with_reducible repeat (first | exact List.Mem.head _ | apply List.Mem.tail)); done | (repeat (first | exact List.Mem.head _ | apply List.Mem.tail)))) (fun _ => hy46) ?_
        refine D_load0 GC.none (OpV.t rfl) (fun hg => RdT.at (RdT.tree (by first | (with_reducible repeat (first | exact List.Mem.head _ | apply List.Mem.tail)); done | (repeat (first | exact List.Mem.head _ | apply List.Mem.tail)))) (hy46).2) one3 rfl ?_
        refine DV_nil ?_
        refine Give_is rfl rfl ?_
        refine Give_drop rfl ?_
        refine Give_drop rfl ?_
        refine Give_is rfl rfl ?_
        refine Give_drop rfl ?_
        refine Give_drop rfl ?_
        refine Give_is rfl rfl ?_
        refine Give_drop rfl ?_
        refine Give_drop rfl ?_
        refine Give_is rfl rfl ?_
        refine Give_drop rfl ?_
        refine Give_drop rfl ?_
        refine Give_drop rfl ?_
        refine Give_drop rfl ?_
        refine Give_drop rfl ?_
        refine Give_is rfl rfl ?_
        refine Give_drop rfl ?_
        refine Give_drop rfl ?_
        refine Give_is rfl rfl ?_
        refine Give_drop rfl ?_
        refine Give_drop rfl ?_
        refine Give_is rfl rfl ?_
        refine Give_drop rfl ?_
        refine Give_drop rfl ?_
        refine Give_is rfl rfl ?_
        refine Give_drop rfl ?_
        refine Give_drop rfl ?_
        refine Give_drop rfl ?_
        refine Give_nil ?_
        have ho := hp; clear hp; obtain ⟨y65, hy65, hp⟩ := bind_any ho; clear ho
        refine L_bsN ([y56, u39, u52, u53, y61, u38, u44, u46] : List Int) (xs := [(0, .tmp 200), (1, .tmp 203), (2, .tmp 206), (3, .tmp 209), (4, .tmp 215), (5, .tmp 218), (6, .tmp 221), (7, .tmp 224)]) rfl rfl el143 rfl rfl rfl rfl rfl rfl rfl hy65 (fun X66 hdX66 => ?_)
        subst hdX66
        refine L_assign rfl rfl ?_
        refine L_nil ?_
        refine W_region ?_
        refine L_move rfl rfl ?_
        refine L_binV rfl rfl rfl bv_add ?_
        refine L_assign rfl rfl ?_
        refine L_nil ?_
        exact ⟨(X66, IntKind.wrap .i64 (v36_1 + 1)), (Sub.cons rfl (Sub.cons rfl (Sub.cons rfl (Sub.cons rfl (Sub.cons rfl (Sub.nil _)))))), (Arr.sub (MSub.cons (by first | (with_reducible repeat (first | exact Pick.here _ | apply Pick.there)); done | (repeat (first | exact Pick.here _ | apply Pick.there))) (MSub.cons (by first | (with_reducible repeat (first | exact Pick.here _ | apply Pick.there)); done | (repeat (first | exact Pick.here _ | apply Pick.there))) (MSub.nil _)))), some_eq hp⟩
      · skip
        replace hp := cond_f hc37 hp
        refine W_exit ?_
        have ho := hp; clear hp; obtain ⟨a67, hp, hx_a67⟩ := map_any ho; clear ho
        obtain rfl := hx36 _ hx_a67
        refine W_seq ?_
        refine W_region ?_
        have ho := hp; clear hp; obtain ⟨y69, hy69, hp⟩ := bind_any ho; clear ho
        refine L_mk0 Int rfl el143 (fun X68 hdX68 => ?_)
        obtain rfl : GT.dat X68 = y69 := hdX68.trans (Option.some.inj hy69)
        clear hy69 hdX68
        refine L_assign rfl rfl ?_
        refine L_nil ?_
        refine W_seq ?_
        refine W_seq ?_
        refine W_region ?_
        refine L_assign rfl rfl ?_
        refine L_nil ?_
        refine W_block ?_
        refine W_while (σ := (TL Int) × Int) GT.dat (fun ((v70_0, v70_1) : (TL Int) × Int) => [(18, (TL.hdr v70_0)), (19, .int .i64 v70_1)]) (fun ((v70_0, v70_1) : (TL Int) × Int) => [treeH v70_0]) [(0, _), (12, _)] [treeH v36_0] (X68, 0) hp (Sub.cons rfl (Sub.cons rfl (Sub.cons rfl (Sub.cons rfl (Sub.nil _))))) (MSub.cons (by first | (with_reducible repeat (first | exact Pick.here _ | apply Pick.there)); done | (repeat (first | exact Pick.here _ | apply Pick.there))) (MSub.cons (by first | (with_reducible repeat (first | exact Pick.here _ | apply Pick.there)); done | (repeat (first | exact Pick.here _ | apply Pick.there))) (MSub.nil _))) ?_
        clear hp
        rintro ⟨v70_0, v70_1⟩ x70 hp hx70
        try dsimp only [dat_pair, dat_int, dat_bool, dat_str, dat_ar] at hp
        refine W_weaken (l' := [(0, _), (12, _), (18, _), (19, _)]) (Sub.cons rfl (Sub.cons rfl (Sub.cons rfl (Sub.cons rfl (Sub.nil _))))) (M' := [_, _]) (MSub.cons (by first | (with_reducible repeat (first | exact Pick.here _ | apply Pick.there)); done | (repeat (first | exact Pick.here _ | apply Pick.there))) (MSub.cons (by first | (with_reducible repeat (first | exact Pick.here _ | apply Pick.there)); done | (repeat (first | exact Pick.here _ | apply Pick.there))) (MSub.nil _))) ?_
        refine W_seq ?_
        refine W_seq ?_
        refine W_region ?_
        refine L_move rfl rfl ?_
        refine L_binV rfl rfl rfl bv_lss ?_
        refine L_nil ?_
        refine W_weaken (l' := [(0, _), (12, _), (18, _), (19, _), (228, _)]) (Sub.cons rfl (Sub.cons rfl (Sub.cons rfl (Sub.cons rfl (Sub.cons rfl (Sub.nil _)))))) (MSub.refl _) ?_
        refine W_cond rfl (fun hc71 => ?_) (fun hc71 => ?_)
        · skip
          replace hp := cond_t hc71 hp
          refine W_skip ?_
          refine W_seq ?_
          refine W_block ?_
          have ho := hp; clear hp; obtain ⟨u72, hy72, hp⟩ := idx_bind ho; clear ho
          have ho := hp; clear hp; obtain ⟨u73, hy73, hp⟩ := idx_bind ho; clear ho
          have ho := hp; clear hp; obtain ⟨y74, hy74, hp⟩ := bind_any ho; clear ho
          refine W_DS (pre := [_, _, _, _, _, _, _, _, _, _, _, _]) (suf := [_, _]) [231, 242] [] _ (perm_nil_left _) mix (by kernel_rfl) (by kernel_rfl) rfl ?_
          refine D_move GC.none (OpV.t rfl) ?_
          refine D_move GC.none (OpV.t rfl) ?_
          refine D_move GC.none (OpV.t rfl) ?_
          refine D_idxA (X := a0) GC.none (OpV.t rfl) (OpV.t rfl) el143 (RdT.old h0) (fun _ => hy72) ?_
          refine D_load0 GC.none (OpV.t rfl) (fun hg => RdT.at (RdT.old h0) (hy72).2) one3 rfl ?_
          refine D_move GC.none (OpV.t rfl) ?_
          refine D_move GC.none (OpV.t rfl) ?_
          refine D_idxA (X := v36_0) GC.none (OpV.t rfl) (OpV.t rfl) el143 (RdT.tree (by first | (with_reducible repeat (first | exact List.Mem.head _ | apply List.Mem.tail)); done | (repeat (first | exact List.Mem.head _ | apply List.Mem.tail)))) (fun _ => hy73) ?_
          refine D_load0 GC.none (OpV.t rfl) (fun hg => RdT.at (RdT.tree (by first | (with_reducible repeat (first | exact List.Mem.head _ | apply List.Mem.tail)); done | (repeat (first | exact List.Mem.head _ | apply List.Mem.tail)))) (hy73).2) one3 rfl ?_
          refine D_bin GC.none (OpV.t rfl) (OpV.t rfl) (fun hg => bv_add) ?_
          refine D_callX GC.none fn143 (OpVs.cons (OpV.t rfl) (OpVs.nil)) (by exact fun hg w F hF hM => s_l3Word_walk w (IntKind.wrap .i64 (u72 + u73))  _ hy74) ?_
          refine D_bs1 (OpV.t rfl) el143 rfl (by decide) (by decide) rfl ?_
          refine DV_nil ?_
          refine Give_R rfl rfl ?_
          rintro vr242 Mr242 ⟨bb242, hvr242, rfl⟩
          subst hvr242
          simp only [List.cons_append, List.nil_append]
          refine Give_drop rfl ?_
          refine Give_drop rfl ?_
          refine Give_drop rfl ?_
          refine Give_drop rfl ?_
          refine Give_drop rfl ?_
          refine Give_drop rfl ?_
          refine Give_drop rfl ?_
          refine Give_drop rfl ?_
          refine Give_drop rfl ?_
          refine Give_drop rfl ?_
          refine Give_is rfl rfl ?_
          refine Give_nil ?_
          have ho := hp; clear hp; obtain ⟨y76, hy76, hp⟩ := bind_any ho; clear ho
          refine L_app1F (X := v70_0) (y74 : Int) rfl rfl rfl el143 rfl rfl (by first | (with_reducible repeat (first | exact Pick.here _ | apply Pick.there)); done | (repeat (first | exact Pick.here _ | apply Pick.there))) (by first | (with_reducible repeat (first | exact List.Mem.head _ | apply List.Mem.tail)); done | (repeat (first | exact List.Mem.head _ | apply List.Mem.tail)))  hy76 (by decide) (fun X75 hdX75 => ?_)
          subst hdX75
          refine L_assign rfl rfl ?_
          refine L_nil ?_
          refine W_region ?_
          refine L_move rfl rfl ?_
          refine L_binV rfl rfl rfl bv_add ?_
          refine L_assign rfl rfl ?_
          refine L_nil ?_
          exact ⟨(X75, IntKind.wrap .i64 (v70_1 + 1)), (Sub.cons rfl (Sub.cons rfl (Sub.cons rfl (Sub.cons rfl (Sub.nil _))))), (Arr.sub (MSub.cons (by first | (with_reducible repeat (first | exact Pick.here _ | apply Pick.there)); done | (repeat (first | exact Pick.here _ | apply Pick.there))) (MSub.cons (by first | (with_reducible repeat (first | exact Pick.here _ | apply Pick.there)); done | (repeat (first | exact Pick.here _ | apply Pick.there))) (MSub.nil _)))), some_eq hp⟩
        · skip
          replace hp := cond_f hc71 hp
          refine W_exit ?_
          have ho := hp; clear hp; obtain ⟨a77, hp, hx_a77⟩ := map_any ho; clear ho
          obtain rfl := hx70 _ hx_a77
          refine W_seq ?_
          refine W_region ?_
          refine L_move rfl rfl ?_
          refine L_assign rfl rfl ?_
          refine L_nil ?_
          obtain rfl := Option.some.inj hp
          refine W_ret ?_
          refine res1 rfl (ResOK.tmp rfl) ⟨v70_0, rfl, rfl, rfl⟩ (MSub.cons (by first | (with_reducible repeat (first | exact Pick.here _ | apply Pick.there)); done | (repeat (first | exact Pick.here _ | apply Pick.there))) (MSub.nil _))

noncomputable def s_Sha (a0 : ByteArray) : Option ByteArray :=
  Option.bind (some ([(128 : UInt8)] : List UInt8)) (fun y1 => whileP (fun s3 : (List UInt8) => cond (!decide ((IntKind.wrap .i64 ((a0.size : Int) + (s3.length : Int))).tmod 64 = 56)) (Option.bind (appP s3 [(0 : UInt8)]) (fun y6 => some (.inl (y6)))) (Option.map .inr (whileP (fun s8 : (List UInt8) × Int => cond (decide (s8.2 < 8)) (Option.bind (shrP .i64 (IntKind.wrap .i64 ((a0.size : Int) * 8)) (IntKind.wrap .u64 (IntKind.wrap .i64 (56 - IntKind.wrap .i64 (8 * s8.2))))) (fun y10 => Option.bind (u8P (IntKind.wrap .u8 (bits .and .i64 y10 255))) (fun y11 => Option.bind (appP s8.1 [y11]) (fun y13 => some (.inl ((y13, IntKind.wrap .i64 (s8.2 + 1)))))))) (Option.map .inr (Option.bind (catP a0 (strP s8.1)) (fun y15 => Option.bind (some ([1779033703, 3144134277, 1013904242, 2773480762, 1359893119, 2600822924, 528734635, 1541459225] : List Int)) (fun y16 => Option.bind (s_l3Keys ) (fun y18 => whileP (fun s19 : (List Int) × Int => cond (decide (s19.2 < (y15.size : Int))) (Option.bind (sslP y15 s19.2 (IntKind.wrap .i64 (s19.2 + 64))) (fun y21 => Option.bind (s_l3Block s19.1 y21 y18) (fun y22 => some (.inl ((y22, IntKind.wrap .i64 (s19.2 + 64))))))) (Option.map .inr (Option.bind (some ([] : List UInt8)) (fun y25 => whileP (fun s26 : (List UInt8) × Int => cond (decide (s26.2 < 8)) (Option.bind (idx s19.1 s26.2) (fun y28 => Option.bind (idx s19.1 s26.2) (fun y29 => Option.bind (idx s19.1 s26.2) (fun y30 => Option.bind (idx s19.1 s26.2) (fun y31 => Option.bind (u8P (IntKind.wrap .u8 (y28 / 2 ^ (24 : Int).toNat))) (fun y32 => Option.bind (u8P (IntKind.wrap .u8 (bits .and .i64 (y29 / 2 ^ (16 : Int).toNat) 255))) (fun y33 => Option.bind (u8P (IntKind.wrap .u8 (bits .and .i64 (y30 / 2 ^ (8 : Int).toNat) 255))) (fun y34 => Option.bind (u8P (IntKind.wrap .u8 (bits .and .i64 y31 255))) (fun y35 => Option.bind (some ([y32, y33, y34, y35] : List UInt8)) (fun y36 => Option.bind (appP s26.1 y36) (fun y39 => some (.inl ((y39, IntKind.wrap .i64 (s26.2 + 1))))))))))))))) (Option.map .inr (some (strP s26.1)))) (y25, 0))))) (y16, 0))))))) (s3, 0)))) y1)

set_option maxHeartbeats 2000000 in
theorem s_Sha_walk (w : World) (a0 : ByteArray)  (r : ByteArray) (hp : s_Sha a0 = some r) : Spec Tryd.prog 89 [.string a0].toArray w [] (IsV (.string r)) := by
  refine Spec.intro Tryd.func89 rfl Tryd.ntmps89 rfl ?_
  unfold s_Sha at hp
  try dsimp only [dat_pair, dat_int, dat_bool, dat_str, dat_ar] at hp
  refine W_seq ?_
  refine W_region ?_
  refine L_assign rfl rfl ?_
  refine L_nil ?_
  refine W_seq ?_
  refine W_region ?_
  refine L_move rfl rfl ?_
  refine L_lenT rfl rfl str9 ?_
  refine L_assign rfl rfl ?_
  refine L_nil ?_
  refine W_seq ?_
  refine W_region ?_
  have ho := hp; clear hp; obtain ⟨y1, hy1, hp⟩ := bind_any ho; clear ho
  refine L_bsN ([(128 : UInt8)] : List UInt8) (xs := [(0, .const (.int .u8 128))]) rfl rfl el59 rfl rfl rfl rfl rfl rfl rfl hy1 (fun X2 hdX2 => ?_)
  subst hdX2
  refine L_assign rfl rfl ?_
  refine L_nil ?_
  refine W_seq ?_
  refine W_block ?_
  refine W_while (σ := (TL UInt8)) GT.dat (fun (v3_0 : (TL UInt8)) => [(4, (TL.hdr v3_0))]) (fun (v3_0 : (TL UInt8)) => [treeH v3_0]) [(0, _), (3, _)] [] X2 hp (Sub.cons rfl (Sub.cons rfl (Sub.cons rfl (Sub.nil _)))) (MSub.cons (by first | (with_reducible repeat (first | exact Pick.here _ | apply Pick.there)); done | (repeat (first | exact Pick.here _ | apply Pick.there))) (MSub.nil _)) ?_
  clear hp
  rintro v3_0 x3 hp hx3
  try dsimp only [dat_pair, dat_int, dat_bool, dat_str, dat_ar] at hp
  refine W_weaken (l' := [(0, _), (3, _), (4, _)]) (Sub.cons rfl (Sub.cons rfl (Sub.cons rfl (Sub.nil _)))) (M' := [_]) (MSub.cons (by first | (with_reducible repeat (first | exact Pick.here _ | apply Pick.there)); done | (repeat (first | exact Pick.here _ | apply Pick.there))) (MSub.nil _)) ?_
  refine W_seq ?_
  refine W_seq ?_
  refine W_region ?_
  refine L_move rfl rfl ?_
  refine L_move rfl rfl ?_
  refine L_lenP (X := v3_0) rfl rfl el59 ?_
  refine L_binV rfl rfl rfl bv_add ?_
  refine L_binV rfl rfl rfl (bv_rem (by decide)) ?_
  refine L_binV rfl rfl rfl bv_neq ?_
  refine L_nil ?_
  refine W_weaken (l' := [(0, _), (3, _), (4, _), (20, _)]) (Sub.cons rfl (Sub.cons rfl (Sub.cons rfl (Sub.cons rfl (Sub.nil _))))) (MSub.refl _) ?_
  refine W_cond rfl (fun hc4 => ?_) (fun hc4 => ?_)
  · skip
    replace hp := cond_t hc4 hp
    refine W_skip ?_
    refine W_block ?_
    refine W_region ?_
    refine L_move rfl rfl ?_
    refine L_buildSlice1 rfl rfl el59 rfl (by decide) (by decide) rfl (fun bb22 => ?_)
    have ho := hp; clear hp; obtain ⟨y6, hy6, hp⟩ := bind_any ho; clear ho
    refine L_app1F (X := v3_0) ((0 : UInt8) : UInt8) rfl rfl rfl el59 rfl rfl (by first | (with_reducible repeat (first | exact Pick.here _ | apply Pick.there)); done | (repeat (first | exact Pick.here _ | apply Pick.there))) (by first | (with_reducible repeat (first | exact List.Mem.head _ | apply List.Mem.tail)); done | (repeat (first | exact List.Mem.head _ | apply List.Mem.tail)))  hy6 (by decide) (fun X5 hdX5 => ?_)
    subst hdX5
    refine L_assign rfl rfl ?_
    refine L_nil ?_
    exact ⟨X5, (Sub.cons rfl (Sub.cons rfl (Sub.cons rfl (Sub.nil _)))), (Arr.sub (MSub.cons (by first | (with_reducible repeat (first | exact Pick.here _ | apply Pick.there)); done | (repeat (first | exact Pick.here _ | apply Pick.there))) (MSub.nil _))), some_eq hp⟩
  · skip
    replace hp := cond_f hc4 hp
    refine W_exit ?_
    have ho := hp; clear hp; obtain ⟨a7, hp, hx_a7⟩ := map_any ho; clear ho
    obtain rfl := hx3 _ hx_a7
    refine W_seq ?_
    refine W_seq ?_
    refine W_region ?_
    refine L_assign rfl rfl ?_
    refine L_nil ?_
    refine W_block ?_
    refine W_while (σ := (TL UInt8) × Int) GT.dat (fun ((v8_0, v8_1) : (TL UInt8) × Int) => [(4, (TL.hdr v8_0)), (5, .int .i64 v8_1)]) (fun ((v8_0, v8_1) : (TL UInt8) × Int) => [treeH v8_0]) [(0, _), (3, _)] [] (v3_0, 0) hp (Sub.cons rfl (Sub.cons rfl (Sub.cons rfl (Sub.cons rfl (Sub.nil _))))) (MSub.cons (by first | (with_reducible repeat (first | exact Pick.here _ | apply Pick.there)); done | (repeat (first | exact Pick.here _ | apply Pick.there))) (MSub.nil _)) ?_
    clear hp
    rintro ⟨v8_0, v8_1⟩ x8 hp hx8
    try dsimp only [dat_pair, dat_int, dat_bool, dat_str, dat_ar] at hp
    refine W_weaken (l' := [(0, _), (3, _), (4, _), (5, _)]) (Sub.cons rfl (Sub.cons rfl (Sub.cons rfl (Sub.cons rfl (Sub.nil _))))) (M' := [_]) (MSub.cons (by first | (with_reducible repeat (first | exact Pick.here _ | apply Pick.there)); done | (repeat (first | exact Pick.here _ | apply Pick.there))) (MSub.nil _)) ?_
    refine W_seq ?_
    refine W_seq ?_
    refine W_region ?_
    refine L_move rfl rfl ?_
    refine L_binV rfl rfl rfl bv_lss ?_
    refine L_nil ?_
    refine W_weaken (l' := [(0, _), (3, _), (4, _), (5, _), (25, _)]) (Sub.cons rfl (Sub.cons rfl (Sub.cons rfl (Sub.cons rfl (Sub.cons rfl (Sub.nil _)))))) (MSub.refl _) ?_
    refine W_cond rfl (fun hc9 => ?_) (fun hc9 => ?_)
    · skip
      replace hp := cond_t hc9 hp
      refine W_skip ?_
      refine W_seq ?_
      refine W_block ?_
      refine W_region ?_
      refine L_move rfl rfl ?_
      refine L_move rfl rfl ?_
      refine L_binV rfl rfl rfl bv_mul ?_
      refine L_move rfl rfl ?_
      refine L_binV rfl rfl rfl bv_mul ?_
      refine L_binV rfl rfl rfl bv_sub ?_
      refine L_convInt rfl rfl und128 (by rw [und3]; rfl) ?_
      have ho := hp; clear hp; obtain ⟨y10, hy10, hp⟩ := bind_any ho; clear ho
      refine L_binV rfl rfl rfl (bv_shrP hy10) ?_
      refine L_binV rfl rfl rfl bv_and ?_
      refine L_convInt rfl rfl und5 (by rw [und3]; rfl) ?_
      have ho := hp; clear hp; obtain ⟨y11, hy11, hp⟩ := bind_any ho; clear ho
      have ey11 := u8P_some hy11
      try simp only [ey11]
      refine L_buildSlice1 rfl rfl el59 rfl (by decide) (by decide) rfl (fun bb38 => ?_)
      have ho := hp; clear hp; obtain ⟨y13, hy13, hp⟩ := bind_any ho; clear ho
      refine L_app1F (X := v8_0) (y11 : UInt8) rfl rfl rfl el59 rfl rfl (by first | (with_reducible repeat (first | exact Pick.here _ | apply Pick.there)); done | (repeat (first | exact Pick.here _ | apply Pick.there))) (by first | (with_reducible repeat (first | exact List.Mem.head _ | apply List.Mem.tail)); done | (repeat (first | exact List.Mem.head _ | apply List.Mem.tail)))  hy13 (by decide) (fun X12 hdX12 => ?_)
      subst hdX12
      refine L_assign rfl rfl ?_
      refine L_nil ?_
      refine W_region ?_
      refine L_move rfl rfl ?_
      refine L_binV rfl rfl rfl bv_add ?_
      refine L_assign rfl rfl ?_
      refine L_nil ?_
      exact ⟨(X12, IntKind.wrap .i64 (v8_1 + 1)), (Sub.cons rfl (Sub.cons rfl (Sub.cons rfl (Sub.cons rfl (Sub.nil _))))), (Arr.sub (MSub.cons (by first | (with_reducible repeat (first | exact Pick.here _ | apply Pick.there)); done | (repeat (first | exact Pick.here _ | apply Pick.there))) (MSub.nil _))), some_eq hp⟩
    · skip
      replace hp := cond_f hc9 hp
      refine W_exit ?_
      have ho := hp; clear hp; obtain ⟨a14, hp, hx_a14⟩ := map_any ho; clear ho
      obtain rfl := hx8 _ hx_a14
      refine W_seq ?_
      refine W_region ?_
      refine L_move rfl rfl ?_
      refine L_move rfl rfl ?_
      refine L_toStr (X := v8_0) rfl rfl und59 und5 und9 (RdT.tree (by first | (with_reducible repeat (first | exact List.Mem.head _ | apply List.Mem.tail)); done | (repeat (first | exact List.Mem.head _ | apply List.Mem.tail)))) ?_
      have ho := hp; clear hp; obtain ⟨y15, hy15, hp⟩ := bind_any ho; clear ho
      refine L_binV rfl rfl rfl (bv_saddP hy15) ?_
      refine L_assign rfl rfl ?_
      refine L_nil ?_
      refine W_seq ?_
      refine W_region ?_
      have ho := hp; clear hp; obtain ⟨y16, hy16, hp⟩ := bind_any ho; clear ho
      refine L_bsN ([1779033703, 3144134277, 1013904242, 2773480762, 1359893119, 2600822924, 528734635, 1541459225] : List Int) (xs := [(0, .const (.int .i64 1779033703)), (1, .const (.int .i64 3144134277)), (2, .const (.int .i64 1013904242)), (3, .const (.int .i64 2773480762)), (4, .const (.int .i64 1359893119)), (5, .const (.int .i64 2600822924)), (6, .const (.int .i64 528734635)), (7, .const (.int .i64 1541459225))]) rfl rfl el143 rfl rfl rfl rfl rfl rfl rfl hy16 (fun X17 hdX17 => ?_)
      subst hdX17
      refine L_assign rfl rfl ?_
      refine L_nil ?_
      refine W_seq ?_
      refine W_region ?_
      have ho := hp; clear hp; obtain ⟨y18, hy18, hp⟩ := bind_any ho; clear ho
      refine L_callR rfl fn120 rfl (by exact fun w hw => s_l3Keys_walk w   _ hy18) ?_
      rintro vy18 My18 ⟨y18x0, hvy18, hdy18, rfl⟩
      subst hvy18
      subst hdy18
      simp only [cells_pair, cells_int, cells_bool, cells_str, cells_TL, List.cons_append, List.nil_append]
      try dsimp only [dat_pair, dat_int, dat_bool, dat_str, dat_ar] at hp
      refine L_assign rfl rfl ?_
      refine L_nil ?_
      refine W_seq ?_
      refine W_seq ?_
      refine W_region ?_
      refine L_assign rfl rfl ?_
      refine L_nil ?_
      refine W_block ?_
      refine W_while (σ := (TL Int) × Int) GT.dat (fun ((v19_0, v19_1) : (TL Int) × Int) => [(7, (TL.hdr v19_0)), (9, .int .i64 v19_1)]) (fun ((v19_0, v19_1) : (TL Int) × Int) => [treeH v19_0]) [(6, _), (8, _)] [treeH y18x0] (X17, 0) hp (Sub.cons rfl (Sub.cons rfl (Sub.cons rfl (Sub.cons rfl (Sub.nil _))))) (MSub.cons (by first | (with_reducible repeat (first | exact Pick.here _ | apply Pick.there)); done | (repeat (first | exact Pick.here _ | apply Pick.there))) (MSub.cons (by first | (with_reducible repeat (first | exact Pick.here _ | apply Pick.there)); done | (repeat (first | exact Pick.here _ | apply Pick.there))) (MSub.nil _))) ?_
      clear hp
      rintro ⟨v19_0, v19_1⟩ x19 hp hx19
      try dsimp only [dat_pair, dat_int, dat_bool, dat_str, dat_ar] at hp
      refine W_weaken (l' := [(6, _), (7, _), (8, _), (9, _)]) (Sub.cons rfl (Sub.cons rfl (Sub.cons rfl (Sub.cons rfl (Sub.nil _))))) (M' := [_, _]) (MSub.cons (by first | (with_reducible repeat (first | exact Pick.here _ | apply Pick.there)); done | (repeat (first | exact Pick.here _ | apply Pick.there))) (MSub.cons (by first | (with_reducible repeat (first | exact Pick.here _ | apply Pick.there)); done | (repeat (first | exact Pick.here _ | apply Pick.there))) (MSub.nil _))) ?_
      refine W_seq ?_
      refine W_seq ?_
      refine W_region ?_
      refine L_move rfl rfl ?_
      refine L_move rfl rfl ?_
      refine L_lenT rfl rfl str9 ?_
      refine L_binV rfl rfl rfl bv_lss ?_
      refine L_nil ?_
      refine W_weaken (l' := [(6, _), (7, _), (8, _), (9, _), (49, _)]) (Sub.cons rfl (Sub.cons rfl (Sub.cons rfl (Sub.cons rfl (Sub.cons rfl (Sub.nil _)))))) (MSub.refl _) ?_
      refine W_cond rfl (fun hc20 => ?_) (fun hc20 => ?_)
      · skip
        replace hp := cond_t hc20 hp
        refine W_skip ?_
        refine W_seq ?_
        refine W_block ?_
        refine W_region ?_
        refine L_move rfl rfl ?_
        refine L_move rfl rfl ?_
        refine L_move rfl rfl ?_
        refine L_move rfl rfl ?_
        refine L_binV rfl rfl rfl bv_add ?_
        have ho := hp; clear hp; obtain ⟨y21, hy21, hp⟩ := bind_any ho; clear ho
        refine L_ssl rfl rfl rfl rfl str9 hy21 ?_
        refine L_move rfl rfl ?_
        have ho := hp; clear hp; obtain ⟨y22, hy22, hp⟩ := bind_any ho; clear ho
        refine L_callR rfl fn121 rfl (by exact fun w hw => s_l3Block_walk w v19_0 y21 y18x0 (RdT.now (RdT.tree (by first | (with_reducible repeat (first | exact List.Mem.head _ | apply List.Mem.tail)); done | (repeat (first | exact List.Mem.head _ | apply List.Mem.tail)))) hw) (RdT.now (RdT.tree (by first | (with_reducible repeat (first | exact List.Mem.head _ | apply List.Mem.tail)); done | (repeat (first | exact List.Mem.head _ | apply List.Mem.tail)))) hw) _ hy22) ?_
        rintro vy22 My22 ⟨y22x0, hvy22, hdy22, rfl⟩
        subst hvy22
        subst hdy22
        simp only [cells_pair, cells_int, cells_bool, cells_str, cells_TL, List.cons_append, List.nil_append]
        try dsimp only [dat_pair, dat_int, dat_bool, dat_str, dat_ar] at hp
        refine L_assign rfl rfl ?_
        refine L_nil ?_
        refine W_region ?_
        refine L_move rfl rfl ?_
        refine L_binV rfl rfl rfl bv_add ?_
        refine L_assign rfl rfl ?_
        refine L_nil ?_
        exact ⟨(y22x0, IntKind.wrap .i64 (v19_1 + 64)), (Sub.cons rfl (Sub.cons rfl (Sub.cons rfl (Sub.cons rfl (Sub.nil _))))), (Arr.sub (MSub.cons (by first | (with_reducible repeat (first | exact Pick.here _ | apply Pick.there)); done | (repeat (first | exact Pick.here _ | apply Pick.there))) (MSub.cons (by first | (with_reducible repeat (first | exact Pick.here _ | apply Pick.there)); done | (repeat (first | exact Pick.here _ | apply Pick.there))) (MSub.nil _)))), some_eq hp⟩
      · skip
        replace hp := cond_f hc20 hp
        refine W_exit ?_
        have ho := hp; clear hp; obtain ⟨a23, hp, hx_a23⟩ := map_any ho; clear ho
        obtain rfl := hx19 _ hx_a23
        refine W_seq ?_
        refine W_region ?_
        have ho := hp; clear hp; obtain ⟨y25, hy25, hp⟩ := bind_any ho; clear ho
        refine L_mk0 UInt8 rfl el59 (fun X24 hdX24 => ?_)
        obtain rfl : GT.dat X24 = y25 := hdX24.trans (Option.some.inj hy25)
        clear hy25 hdX24
        refine L_assign rfl rfl ?_
        refine L_nil ?_
        refine W_seq ?_
        refine W_seq ?_
        refine W_region ?_
        refine L_assign rfl rfl ?_
        refine L_nil ?_
        refine W_block ?_
        refine W_while (σ := (TL UInt8) × Int) GT.dat (fun ((v26_0, v26_1) : (TL UInt8) × Int) => [(10, (TL.hdr v26_0)), (11, .int .i64 v26_1)]) (fun ((v26_0, v26_1) : (TL UInt8) × Int) => [treeH v26_0]) [(7, _)] [treeH v19_0] (X24, 0) hp (Sub.cons rfl (Sub.cons rfl (Sub.cons rfl (Sub.nil _)))) (MSub.cons (by first | (with_reducible repeat (first | exact Pick.here _ | apply Pick.there)); done | (repeat (first | exact Pick.here _ | apply Pick.there))) (MSub.cons (by first | (with_reducible repeat (first | exact Pick.here _ | apply Pick.there)); done | (repeat (first | exact Pick.here _ | apply Pick.there))) (MSub.nil _))) ?_
        clear hp
        rintro ⟨v26_0, v26_1⟩ x26 hp hx26
        try dsimp only [dat_pair, dat_int, dat_bool, dat_str, dat_ar] at hp
        refine W_weaken (l' := [(7, _), (10, _), (11, _)]) (Sub.cons rfl (Sub.cons rfl (Sub.cons rfl (Sub.nil _)))) (M' := [_, _]) (MSub.cons (by first | (with_reducible repeat (first | exact Pick.here _ | apply Pick.there)); done | (repeat (first | exact Pick.here _ | apply Pick.there))) (MSub.cons (by first | (with_reducible repeat (first | exact Pick.here _ | apply Pick.there)); done | (repeat (first | exact Pick.here _ | apply Pick.there))) (MSub.nil _))) ?_
        refine W_seq ?_
        refine W_seq ?_
        refine W_region ?_
        refine L_move rfl rfl ?_
        refine L_binV rfl rfl rfl bv_lss ?_
        refine L_nil ?_
        refine W_weaken (l' := [(7, _), (10, _), (11, _), (62, _)]) (Sub.cons rfl (Sub.cons rfl (Sub.cons rfl (Sub.cons rfl (Sub.nil _))))) (MSub.refl _) ?_
        refine W_cond rfl (fun hc27 => ?_) (fun hc27 => ?_)
        · skip
          replace hp := cond_t hc27 hp
          refine W_skip ?_
          refine W_seq ?_
          refine W_block ?_
          have ho := hp; clear hp; obtain ⟨u28, hy28, hp⟩ := idx_bind ho; clear ho
          have ho := hp; clear hp; obtain ⟨u29, hy29, hp⟩ := idx_bind ho; clear ho
          obtain rfl : u28 = u29 := Option.some.inj (hy28.2.symm.trans hy29.2)
          have ho := hp; clear hp; obtain ⟨u30, hy30, hp⟩ := idx_bind ho; clear ho
          obtain rfl : u28 = u30 := Option.some.inj (hy28.2.symm.trans hy30.2)
          have ho := hp; clear hp; obtain ⟨u31, hy31, hp⟩ := idx_bind ho; clear ho
          obtain rfl : u28 = u31 := Option.some.inj (hy28.2.symm.trans hy31.2)
          have ho := hp; clear hp; obtain ⟨y32, hy32, hp⟩ := bind_any ho; clear ho
          have ey32 := u8P_some hy32
          try simp only [ey32]
          have ho := hp; clear hp; obtain ⟨y33, hy33, hp⟩ := bind_any ho; clear ho
          have ey33 := u8P_some hy33
          try simp only [ey33]
          have ho := hp; clear hp; obtain ⟨y34, hy34, hp⟩ := bind_any ho; clear ho
          have ey34 := u8P_some hy34
          try simp only [ey34]
          have ho := hp; clear hp; obtain ⟨y35, hy35, hp⟩ := bind_any ho; clear ho
          have ey35 := u8P_some hy35
          try simp only [ey35]
          have ho := hp; clear hp; obtain ⟨y36, hy36, hp⟩ := bind_any ho; clear ho
          refine W_DS (pre := [_, _, _, _, _, _, _, _, _, _, _, _, _, _, _, _, _, _, _, _, _, _, _, _, _, _, _, _]) (suf := [_, _]) [65, 92] [] _ (perm_nil_left _) mix (by kernel_rfl) (by kernel_rfl) rfl ?_
          refine D_move GC.none (OpV.t rfl) ?_
          refine D_move GC.none (OpV.t rfl) ?_
          refine D_move GC.none (OpV.t rfl) ?_
          refine D_idxA (X := v19_0) GC.none (OpV.t rfl) (OpV.t rfl) el143 (RdT.tree (by first | (with_reducible repeat (first | exact List.Mem.head _ | apply List.Mem.tail)); done | (repeat (first | exact List.Mem.head _ | apply List.Mem.tail)))) (fun _ => hy28) ?_
          refine D_load0 GC.none (OpV.t rfl) (fun hg => RdT.at (RdT.tree (by first | (with_reducible repeat (first | exact List.Mem.head _ | apply List.Mem.tail)); done | (repeat (first | exact List.Mem.head _ | apply List.Mem.tail)))) (hy28).2) one3 rfl ?_
          refine D_bin GC.none (OpV.t rfl) OpV.c (fun hg => (bv_shr (by decide) (by decide))) ?_
          refine D_convInt GC.none (OpV.t rfl) und5 (by rw [und3]; rfl) ?_
          refine D_move GC.none (OpV.t rfl) ?_
          refine D_move GC.none (OpV.t rfl) ?_
          refine D_idxA (X := v19_0) GC.none (OpV.t rfl) (OpV.t rfl) el143 (RdT.tree (by first | (with_reducible repeat (first | exact List.Mem.head _ | apply List.Mem.tail)); done | (repeat (first | exact List.Mem.head _ | apply List.Mem.tail)))) (fun _ => hy28) ?_
          refine D_load0 GC.none (OpV.t rfl) (fun hg => RdT.at (RdT.tree (by first | (with_reducible repeat (first | exact List.Mem.head _ | apply List.Mem.tail)); done | (repeat (first | exact List.Mem.head _ | apply List.Mem.tail)))) (hy28).2) one3 rfl ?_
          refine D_bin GC.none (OpV.t rfl) OpV.c (fun hg => (bv_shr (by decide) (by decide))) ?_
          refine D_bin GC.none (OpV.t rfl) OpV.c (fun hg => bv_and) ?_
          refine D_convInt GC.none (OpV.t rfl) und5 (by rw [und3]; rfl) ?_
          refine D_move GC.none (OpV.t rfl) ?_
          refine D_move GC.none (OpV.t rfl) ?_
          refine D_idxA (X := v19_0) GC.none (OpV.t rfl) (OpV.t rfl) el143 (RdT.tree (by first | (with_reducible repeat (first | exact List.Mem.head _ | apply List.Mem.tail)); done | (repeat (first | exact List.Mem.head _ | apply List.Mem.tail)))) (fun _ => hy28) ?_
          refine D_load0 GC.none (OpV.t rfl) (fun hg => RdT.at (RdT.tree (by first | (with_reducible repeat (first | exact List.Mem.head _ | apply List.Mem.tail)); done | (repeat (first | exact List.Mem.head _ | apply List.Mem.tail)))) (hy28).2) one3 rfl ?_
          refine D_bin GC.none (OpV.t rfl) OpV.c (fun hg => (bv_shr (by decide) (by decide))) ?_
          refine D_bin GC.none (OpV.t rfl) OpV.c (fun hg => bv_and) ?_
          refine D_convInt GC.none (OpV.t rfl) und5 (by rw [und3]; rfl) ?_
          refine D_move GC.none (OpV.t rfl) ?_
          refine D_move GC.none (OpV.t rfl) ?_
          refine D_idxA (X := v19_0) GC.none (OpV.t rfl) (OpV.t rfl) el143 (RdT.tree (by first | (with_reducible repeat (first | exact List.Mem.head _ | apply List.Mem.tail)); done | (repeat (first | exact List.Mem.head _ | apply List.Mem.tail)))) (fun _ => hy28) ?_
          refine D_load0 GC.none (OpV.t rfl) (fun hg => RdT.at (RdT.tree (by first | (with_reducible repeat (first | exact List.Mem.head _ | apply List.Mem.tail)); done | (repeat (first | exact List.Mem.head _ | apply List.Mem.tail)))) (hy28).2) one3 rfl ?_
          refine D_bin GC.none (OpV.t rfl) OpV.c (fun hg => bv_and) ?_
          refine D_convInt GC.none (OpV.t rfl) und5 (by rw [und3]; rfl) ?_
          refine D_bsN ([y32, y33, y34, y35] : List UInt8) (xs := [(0, .tmp 71), (1, .tmp 78), (2, .tmp 85), (3, .tmp 91)]) (ps := [(0, .int .u8 (y32.toNat : Int)), (1, .int .u8 (y33.toNat : Int)), (2, .int .u8 (y34.toNat : Int)), (3, .int .u8 (y35.toNat : Int))]) (OpVp.cons (by rw [← ey32]; exact (OpV.t rfl)) (OpVp.cons (by rw [← ey33]; exact (OpV.t rfl)) (OpVp.cons (by rw [← ey34]; exact (OpV.t rfl)) (OpVp.cons (by rw [← ey35]; exact (OpV.t rfl)) (OpVp.nil))))) el59 rfl rfl rfl rfl rfl rfl rfl hy36 ?_
          refine DV_nil ?_
          refine Give_R rfl rfl ?_
          rintro vy36 My36 ⟨X37, hvy36, hdy36, rfl⟩
          subst hvy36
          subst hdy36
          simp only [List.cons_append, List.nil_append]
          refine Give_drop rfl ?_
          refine Give_drop rfl ?_
          refine Give_drop rfl ?_
          refine Give_drop rfl ?_
          refine Give_drop rfl ?_
          refine Give_drop rfl ?_
          refine Give_drop rfl ?_
          refine Give_drop rfl ?_
          refine Give_drop rfl ?_
          refine Give_drop rfl ?_
          refine Give_drop rfl ?_
          refine Give_drop rfl ?_
          refine Give_drop rfl ?_
          refine Give_drop rfl ?_
          refine Give_drop rfl ?_
          refine Give_drop rfl ?_
          refine Give_drop rfl ?_
          refine Give_drop rfl ?_
          refine Give_drop rfl ?_
          refine Give_drop rfl ?_
          refine Give_drop rfl ?_
          refine Give_drop rfl ?_
          refine Give_drop rfl ?_
          refine Give_drop rfl ?_
          refine Give_drop rfl ?_
          refine Give_drop rfl ?_
          refine Give_is rfl rfl ?_
          refine Give_nil ?_
          have ho := hp; clear hp; obtain ⟨y39, hy39, hp⟩ := bind_any ho; clear ho
          refine L_appT (X := v26_0) (Y := X37) rfl rfl rfl el59 rfl rfl (by first | (with_reducible repeat (first | exact Pick.here _ | apply Pick.there)); done | (repeat (first | exact Pick.here _ | apply Pick.there))) (RdT.tree (by first | (with_reducible repeat (first | exact List.Mem.head _ | apply List.Mem.tail)); done | (repeat (first | exact List.Mem.head _ | apply List.Mem.tail)))) hy39 (by decide) (fun X38 hdX38 => ?_)
          subst hdX38
          refine L_assign rfl rfl ?_
          refine L_nil ?_
          refine W_region ?_
          refine L_move rfl rfl ?_
          refine L_binV rfl rfl rfl bv_add ?_
          refine L_assign rfl rfl ?_
          refine L_nil ?_
          exact ⟨(X38, IntKind.wrap .i64 (v26_1 + 1)), (Sub.cons rfl (Sub.cons rfl (Sub.cons rfl (Sub.nil _)))), (Arr.sub (MSub.cons (by first | (with_reducible repeat (first | exact Pick.here _ | apply Pick.there)); done | (repeat (first | exact Pick.here _ | apply Pick.there))) (MSub.cons (by first | (with_reducible repeat (first | exact Pick.here _ | apply Pick.there)); done | (repeat (first | exact Pick.here _ | apply Pick.there))) (MSub.nil _)))), some_eq hp⟩
        · skip
          replace hp := cond_f hc27 hp
          refine W_exit ?_
          have ho := hp; clear hp; obtain ⟨a40, hp, hx_a40⟩ := map_any ho; clear ho
          obtain rfl := hx26 _ hx_a40
          refine W_seq ?_
          refine W_region ?_
          refine L_move rfl rfl ?_
          refine L_toStr (X := v26_0) rfl rfl und59 und5 und9 (RdT.tree (by first | (with_reducible repeat (first | exact List.Mem.head _ | apply List.Mem.tail)); done | (repeat (first | exact List.Mem.head _ | apply List.Mem.tail)))) ?_
          refine L_assign rfl rfl ?_
          refine L_nil ?_
          obtain rfl := Option.some.inj hp
          refine W_ret ?_
          refine res1 rfl (ResOK.tmp rfl) ⟨rfl, rfl⟩ (MSub.nil _)

noncomputable def s_Short (a0 : ByteArray) : Option ByteArray :=
  Option.bind (s_Sha a0) (fun y1 => Option.bind (sslP y1 0 8) (fun y2 => some y2))

theorem s_Short_walk (w : World) (a0 : ByteArray)  (r : ByteArray) (hp : s_Short a0 = some r) : Spec Tryd.prog 42 [.string a0].toArray w [] (IsV (.string r)) := by
  refine Spec.intro Tryd.func42 rfl Tryd.ntmps42 rfl ?_
  unfold s_Short at hp
  try dsimp only [dat_pair, dat_int, dat_bool, dat_str, dat_ar] at hp
  refine W_seq ?_
  refine W_region ?_
  refine L_assign rfl rfl ?_
  refine L_nil ?_
  refine W_seq ?_
  refine W_region ?_
  refine L_move rfl rfl ?_
  have ho := hp; clear hp; obtain ⟨y1, hy1, hp⟩ := bind_any ho; clear ho
  refine L_callX rfl fn89 rfl (by exact fun w hw => s_Sha_walk w a0  _ hy1) ?_
  have ho := hp; clear hp; obtain ⟨y2, hy2, hp⟩ := bind_any ho; clear ho
  refine L_ssl rfl rfl rfl rfl str9 hy2 ?_
  refine L_assign rfl rfl ?_
  refine L_nil ?_
  obtain rfl := Option.some.inj hp
  refine W_ret ?_
  refine res1 rfl (ResOK.tmp rfl) ⟨rfl, rfl⟩ (MSub.nil _)

end Go.Proofs.SL
