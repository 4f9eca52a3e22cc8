/- Walks of functions, each with the function on data that it follows. -/
import Derived.Test.YtndhmnoehapdhaaDoorWSa
import Derived.Test.YtndhmnoehapdhaaDoorWSb
import Derived.Test.YtndhmnoehapdhaaDoorB3
namespace Go.Proofs.SL
open Go
abbrev T_l1Cur := (TL UInt8) × Int × Int
abbrev D_l1Cur := (List UInt8) × Int × Int
theorem bld141 : bldOf Tryd.prog 141 = some ([(0, 1), (1, 1), (2, 1)], [.slice none 0 0, .int .i64 0, .int .i64 0]) := by kernel_rfl
theorem fld141_2 : fldOf Tryd.prog 141 2 = some 2 := by kernel_rfl
theorem fld141_1 : fldOf Tryd.prog 141 1 = some 1 := by kernel_rfl
theorem fld141_0 : fldOf Tryd.prog 141 0 = some 0 := by kernel_rfl
theorem one59 : oneOf Tryd.prog 59 = true := by kernel_rfl
theorem fn119 : IsFn Tryd.prog 119 := ⟨_, Tryd.func119, by kernel_rfl, rfl⟩
theorem fn84 : IsFn Tryd.prog 84 := ⟨_, Tryd.func84, by kernel_rfl, rfl⟩
noncomputable def w_big (a0 : List UInt8) : Option Bool :=
  some (decide (1048576 < (a0.length : Int)))

theorem w_big_walk (w : World) (a0 : TL UInt8) (h0 : GT.rd w [] a0) (r : Bool) (hp : w_big (GT.dat a0) = some r) : Spec Tryd.prog 38 [(TL.hdr a0)].toArray w [] (IsV (.bool r)) := by
  refine Spec.intro Tryd.func38 rfl Tryd.ntmps38 rfl ?_
  unfold w_big at hp
  try dsimp only [dat_pair, dat_int, dat_bool, dat_str, dat_ar] at hp
  refine W_seq ?_
  refine W_region ?_
  refine L_assign rfl rfl ?_
  refine L_nil ?_
  refine W_seq ?_
  refine W_region ?_
  refine L_move rfl rfl ?_
  refine L_lenP (X := a0) rfl rfl el59 ?_
  refine L_binV rfl rfl rfl bv_gtr ?_
  refine L_assign rfl rfl ?_
  refine L_nil ?_
  obtain rfl := Option.some.inj hp
  refine W_ret ?_
  refine res1 rfl (ResOK.tmp rfl) ⟨rfl, rfl⟩ (MSub.nil _)

noncomputable def w_at (a0 : List UInt8) (a1 : Int) : Option Int :=
  cond (decide (a1 < (a0.length : Int))) (Option.bind (idx a0 a1) (fun y2 => some (IntKind.wrap .i64 (y2.toNat : Int)))) (some ((IntKind.wrap .i64 (IntKind.wrap .i64 (a1 * 37) + IntKind.wrap .i64 ((a0.length : Int) * 11))).tmod 256))

theorem w_at_walk (w : World) (a0 : TL UInt8) (a1 : Int) (h0 : GT.rd w [] a0) (r : Int) (hp : w_at (GT.dat a0) a1 = some r) : Spec Tryd.prog 50 [(TL.hdr a0), .int .i64 a1].toArray w [] (IsV (.int .i64 r)) := by
  refine Spec.intro Tryd.func50 rfl Tryd.ntmps50 rfl ?_
  unfold w_at at hp
  try dsimp only [dat_pair, dat_int, dat_bool, dat_str, dat_ar] at hp
  refine W_seq ?_
  refine W_region ?_
  refine L_assign rfl rfl ?_
  refine L_nil ?_
  refine W_seq ?_
  refine W_seq ?_
  refine W_region ?_
  refine L_move rfl rfl ?_
  refine L_move rfl rfl ?_
  refine L_lenP (X := a0) rfl rfl el59 ?_
  refine L_binV rfl rfl rfl bv_lss ?_
  refine L_nil ?_
  refine W_weaken (l' := [(0, _), (1, _), (8, _)]) (Sub.cons rfl (Sub.cons rfl (Sub.cons rfl (Sub.nil _)))) (MSub.refl _) ?_
  refine W_cond rfl (fun hc1 => ?_) (fun hc1 => ?_)
  · skip
    replace hp := cond_t hc1 hp
    refine W_seq ?_
    refine W_region ?_
    refine L_move rfl rfl ?_
    refine L_move rfl rfl ?_
    have ho := hp; clear hp; obtain ⟨u2, hy2, hp⟩ := idx_bind ho; clear ho
    refine L_idxA (X := a0) rfl rfl rfl el59 (RdT.old h0) hy2 ?_
    refine L_load0 rfl rfl (RdT.at (RdT.old h0) (hy2).2) one5 rfl ?_
    refine L_convInt rfl rfl und3 (by rw [und5]; rfl) ?_
    refine L_assign rfl rfl ?_
    refine L_nil ?_
    obtain rfl := Option.some.inj hp
    refine W_ret ?_
    refine res1 rfl (ResOK.tmp rfl) ⟨rfl, rfl⟩ (MSub.nil _)
  · skip
    replace hp := cond_f hc1 hp
    refine W_skip ?_
    refine W_seq ?_
    refine W_region ?_
    refine L_move rfl rfl ?_
    refine L_binV rfl rfl rfl bv_mul ?_
    refine L_move rfl rfl ?_
    refine L_lenP (X := a0) rfl rfl el59 ?_
    refine L_binV rfl rfl rfl bv_mul ?_
    refine L_binV rfl rfl rfl bv_add ?_
    refine L_binV rfl rfl rfl (bv_rem (by decide)) ?_
    refine L_assign rfl rfl ?_
    refine L_nil ?_
    obtain rfl := Option.some.inj hp
    refine W_ret ?_
    refine res1 rfl (ResOK.tmp rfl) ⟨rfl, rfl⟩ (MSub.nil _)

noncomputable def s_l1New (a0 : List UInt8) : Option D_l1Cur :=
  whileP (fun s1 : Int × Int => cond ((decide (s1.2 < (a0.length : Int))) && (decide (s1.2 < 4000))) (Option.bind (idx a0 s1.2) (fun y3 => some (.inl ((bits .and .i64 (IntKind.wrap .i64 (IntKind.wrap .i64 (IntKind.wrap .i64 (s1.1 * 131) + IntKind.wrap .i64 (y3.toNat : Int)) + 7)) 1073741823, IntKind.wrap .i64 (s1.2 + 1)))))) (Option.map .inr (some (a0, 0, s1.1)))) (IntKind.wrap .i64 (10101 + (a0.length : Int)), 0)

theorem s_l1New_walk (w : World) (a0 : TL UInt8) (h0 : GT.rd w [] a0) (r : D_l1Cur) (hp : s_l1New (GT.dat a0) = some r) : Spec Tryd.prog 81 [(TL.hdr a0)].toArray w [] (fun v M => ∃ (b : Nat) (x0 : T_l1Cur), v = .pointer (some ⟨b, 0, none⟩) ∧ GT.dat x0 = r ∧ M = [blk b (GT.cells x0) 141] ∧ x0.1 = a0) := by
  refine Spec.intro Tryd.func81 rfl Tryd.ntmps81 rfl ?_
  unfold s_l1New at hp
  try dsimp only [dat_pair, dat_int, dat_bool, dat_str, dat_ar] at hp
  refine W_seq ?_
  refine W_region ?_
  refine L_assign rfl rfl ?_
  refine L_nil ?_
  refine W_seq ?_
  refine W_region ?_
  refine L_move rfl rfl ?_
  refine L_lenP (X := a0) rfl rfl el59 ?_
  refine L_binV rfl rfl rfl bv_add ?_
  refine L_assign rfl rfl ?_
  refine L_nil ?_
  refine W_seq ?_
  refine W_seq ?_
  refine W_region ?_
  refine L_assign rfl rfl ?_
  refine L_nil ?_
  refine W_block ?_
  refine W_while (σ := Int × Int) GT.dat (fun ((v1_0, v1_1) : Int × Int) => [(3, .int .i64 v1_0), (4, .int .i64 v1_1)]) (fun ((v1_0, v1_1) : Int × Int) => []) [(0, _)] [] (IntKind.wrap .i64 (10101 + ((GT.dat a0).length : Int)), 0) hp (Sub.cons rfl (Sub.cons rfl (Sub.cons rfl (Sub.nil _)))) (MSub.nil _) ?_
  clear hp
  rintro ⟨v1_0, v1_1⟩ x1 hp hx1
  try dsimp only [dat_pair, dat_int, dat_bool, dat_str, dat_ar] at hp
  refine W_weaken (l' := [(0, _), (3, _), (4, _)]) (Sub.cons rfl (Sub.cons rfl (Sub.cons rfl (Sub.nil _)))) (M' := []) (MSub.nil _) ?_
  refine W_seq ?_
  refine W_seq ?_
  refine W_D0 [15] mix (by kernel_rfl) rfl ?_
  refine D_move GC.none (OpV.t rfl) ?_
  refine D_move GC.none (OpV.t rfl) ?_
  refine D_lenP (X := a0) GC.none (OpV.t rfl) el59 ?_
  refine D_bin GC.none (OpV.t rfl) (OpV.t rfl) (fun hg => bv_lss) ?_
  refine D_move GC.none (OpV.t rfl) ?_
  refine D_move (GC.some rfl rfl) (OpV.t rfl) ?_
  refine D_bin (GC.some rfl rfl) (OpV.s rfl) OpV.c (fun hg => bv_lss) ?_
  refine D_and (cy := _) GC.none (OpV.t rfl) (OpV.s rfl) (fun h hb => ⟨h, hb⟩) ?_
  refine DV_nil ?_
  refine Give_is rfl rfl ?_
  refine Give_drop rfl ?_
  refine Give_drop rfl ?_
  refine Give_drop rfl ?_
  refine Give_drop rfl ?_
  refine Give_drop rfl ?_
  refine Give_drop rfl ?_
  refine Give_drop rfl ?_
  refine Give_nil ?_
  refine W_weaken (l' := [(0, _), (3, _), (4, _), (15, _)]) (Sub.cons rfl (Sub.cons rfl (Sub.cons rfl (Sub.cons rfl (Sub.nil _))))) (MSub.refl _) ?_
  refine W_cond rfl (fun hc2 => ?_) (fun hc2 => ?_)
  · skip
    replace hp := cond_t hc2 hp
    refine W_skip ?_
    refine W_seq ?_
    refine W_block ?_
    refine W_region ?_
    refine L_move rfl rfl ?_
    refine L_binV rfl rfl rfl bv_mul ?_
    refine L_move rfl rfl ?_
    refine L_move rfl rfl ?_
    have ho := hp; clear hp; obtain ⟨u3, hy3, hp⟩ := idx_bind ho; clear ho
    refine L_idxA (X := a0) rfl rfl rfl el59 (RdT.old h0) hy3 ?_
    refine L_load0 rfl rfl (RdT.at (RdT.old h0) (hy3).2) one5 rfl ?_
    refine L_convInt rfl rfl und3 (by rw [und5]; rfl) ?_
    refine L_binV rfl rfl rfl bv_add ?_
    refine L_binV rfl rfl rfl bv_add ?_
    refine L_binV rfl rfl rfl bv_and ?_
    refine L_assign rfl rfl ?_
    refine L_nil ?_
    refine W_region ?_
    refine L_move rfl rfl ?_
    refine L_binV rfl rfl rfl bv_add ?_
    refine L_assign rfl rfl ?_
    refine L_nil ?_
    exact ⟨(bits .and .i64 (IntKind.wrap .i64 (IntKind.wrap .i64 (IntKind.wrap .i64 (v1_0 * 131) + IntKind.wrap .i64 (u3.toNat : Int)) + 7)) 1073741823, IntKind.wrap .i64 (v1_1 + 1)), (Sub.cons rfl (Sub.cons rfl (Sub.cons rfl (Sub.nil _)))), (Arr.sub (MSub.nil _)), some_eq hp⟩
  · skip
    replace hp := cond_f hc2 hp
    refine W_exit ?_
    have ho := hp; clear hp; obtain ⟨a4, hp, hx_a4⟩ := map_any ho; clear ho
    obtain rfl := hx1 _ hx_a4
    refine W_seq ?_
    refine W_region ?_
    refine L_move rfl rfl ?_
    refine L_move rfl rfl ?_
    refine L_build (xs := [(0, .tmp 28), (2, .tmp 29)]) (cs := [(TL.hdr a0), .int .i64 0, .int .i64 v1_0]) rfl rfl bld141 rfl ?_
    refine L_box rfl rfl (fun bk31 => ?_)
    refine L_assign rfl rfl ?_
    refine L_nil ?_
    obtain rfl := Option.some.inj hp
    refine W_ret ?_
    refine res1 rfl (ResOK.tmp rfl) ⟨bk31, (a0, 0, v1_0), rfl, rfl, rfl, rfl⟩ (MSub.cons (by first | (with_reducible repeat (first | exact Pick.here _ | apply Pick.there)); done | (repeat (first | exact Pick.here _ | apply Pick.there))) (MSub.nil _))

noncomputable def s_l1Byte (a0 : D_l1Cur) : Option (Int × D_l1Cur) :=
  cond (decide (a0.2.1 < (a0.1.length : Int))) (Option.bind (idx a0.1 a0.2.1) (fun y2 => some (bits .and .i64 (IntKind.wrap .i64 (bits .and .i64 (bits .xor .i64 (IntKind.wrap .i64 (IntKind.wrap .i64 (a0.2.2 * 6364136223846793005) + 1442695040888963407) / 2 ^ (33 : Int).toNat) (IntKind.wrap .i64 (IntKind.wrap .i64 (a0.2.2 * 6364136223846793005) + 1442695040888963407) / 2 ^ (45 : Int).toNat)) 255 + IntKind.wrap .i64 (y2.toNat : Int))) 255, (a0.1, IntKind.wrap .i64 (a0.2.1 + 1), IntKind.wrap .i64 (IntKind.wrap .i64 (a0.2.2 * 6364136223846793005) + 1442695040888963407))))) (some (bits .and .i64 (bits .xor .i64 (IntKind.wrap .i64 (IntKind.wrap .i64 (a0.2.2 * 6364136223846793005) + 1442695040888963407) / 2 ^ (33 : Int).toNat) (IntKind.wrap .i64 (IntKind.wrap .i64 (a0.2.2 * 6364136223846793005) + 1442695040888963407) / 2 ^ (45 : Int).toNat)) 255, (a0.1, a0.2.1, IntKind.wrap .i64 (IntKind.wrap .i64 (a0.2.2 * 6364136223846793005) + 1442695040888963407))))

theorem s_l1Byte_walk (w : World) (b0_ : Nat) (a0 : T_l1Cur) (h0_0 : GT.rd w (fps [blk b0_ (GT.cells a0) 141]) a0.1) (r : Int × D_l1Cur) (hp : s_l1Byte (GT.dat a0) = some r) : Spec Tryd.prog 119 [Value.pointer (some ⟨b0_, 0, none⟩)].toArray w [blk b0_ (GT.cells a0) 141] (fun v M => ∃ (x0 : Int) (y0 : T_l1Cur), v = .int .i64 x0 ∧ (GT.dat x0, GT.dat y0) = r ∧ M = [blk b0_ (GT.cells y0) 141] ∧ y0.1 = a0.1) := by
  obtain ⟨a0_1, a0_2, a0_3⟩ := a0
  change Spec _ _ ([Value.pointer (some ⟨b0_, 0, none⟩)] : List Value).toArray w _ _
  refine Spec.intro Tryd.func119 rfl Tryd.ntmps119 rfl ?_
  unfold s_l1Byte at hp
  try dsimp only [dat_pair, dat_int, dat_bool, dat_str, dat_ar] at hp
  refine W_seq ?_
  refine W_region ?_
  refine L_assign rfl rfl ?_
  refine L_nil ?_
  refine W_seq ?_
  refine W_region ?_
  refine L_move rfl rfl ?_
  refine L_move rfl rfl ?_
  refine L_nilCheck rfl rfl ?_
  refine L_fieldAddr rfl rfl fld141_2 ?_
  refine L_load rfl rfl (RdC.blk (by first | (with_reducible repeat (first | exact List.Mem.head _ | apply List.Mem.tail)); done | (repeat (first | exact List.Mem.head _ | apply List.Mem.tail)))) one3 rfl ?_
  refine L_binV rfl rfl rfl bv_mul ?_
  refine L_binV rfl rfl rfl bv_add ?_
  refine L_nilCheck rfl rfl ?_
  refine L_fieldAddr rfl rfl fld141_2 ?_
  refine L_store rfl rfl (by first | (with_reducible repeat (first | exact Pick.here _ | apply Pick.there)); done | (repeat (first | exact Pick.here _ | apply Pick.there))) one3 rfl rfl ?_
  refine L_nil ?_
  refine W_seq ?_
  refine W_D0 [3] mix (by kernel_rfl) rfl ?_
  refine D_move GC.none (OpV.t rfl) ?_
  refine D_nilCheck GC.none (OpV.t rfl) ?_
  refine D_fieldAddr GC.none (OpV.t rfl) fld141_2 ?_
  refine D_load GC.none (OpV.t rfl) (fun hg => RdC.blk (by first | (with_reducible repeat (first | exact List.Mem.head _ | apply List.Mem.tail)); done | (repeat (first | exact List.Mem.head _ | apply List.Mem.tail)))) one3 rfl ?_
  refine D_bin GC.none (OpV.t rfl) OpV.c (fun hg => (bv_shr (by decide) (by decide))) ?_
  refine D_move GC.none (OpV.t rfl) ?_
  refine D_nilCheck GC.none (OpV.t rfl) ?_
  refine D_fieldAddr GC.none (OpV.t rfl) fld141_2 ?_
  refine D_load GC.none (OpV.t rfl) (fun hg => RdC.blk (by first | (with_reducible repeat (first | exact List.Mem.head _ | apply List.Mem.tail)); done | (repeat (first | exact List.Mem.head _ | apply List.Mem.tail)))) one3 rfl ?_
  refine D_bin GC.none (OpV.t rfl) OpV.c (fun hg => (bv_shr (by decide) (by decide))) ?_
  refine D_bin GC.none (OpV.t rfl) (OpV.t rfl) (fun hg => bv_xor) ?_
  refine D_bin GC.none (OpV.t rfl) OpV.c (fun hg => bv_and) ?_
  refine D_assign GC.none (OpV.t rfl) ?_
  refine DV_nil ?_
  refine Give_is rfl rfl ?_
  refine Give_drop rfl ?_
  refine Give_drop rfl ?_
  refine Give_drop rfl ?_
  refine Give_drop rfl ?_
  refine Give_drop rfl ?_
  refine Give_drop rfl ?_
  refine Give_drop rfl ?_
  refine Give_drop rfl ?_
  refine Give_drop rfl ?_
  refine Give_drop rfl ?_
  refine Give_drop rfl ?_
  refine Give_drop rfl ?_
  refine Give_nil ?_
  refine W_seq ?_
  refine W_seq ?_
  refine W_D0 [34] mix (by kernel_rfl) rfl ?_
  refine D_move GC.none (OpV.t rfl) ?_
  refine D_nilCheck GC.none (OpV.t rfl) ?_
  refine D_fieldAddr GC.none (OpV.t rfl) fld141_1 ?_
  refine D_load GC.none (OpV.t rfl) (fun hg => RdC.blk (by first | (with_reducible repeat (first | exact List.Mem.head _ | apply List.Mem.tail)); done | (repeat (first | exact List.Mem.head _ | apply List.Mem.tail)))) one3 rfl ?_
  refine D_move GC.none (OpV.t rfl) ?_
  refine D_nilCheck GC.none (OpV.t rfl) ?_
  refine D_fieldAddr GC.none (OpV.t rfl) fld141_0 ?_
  refine D_load GC.none (OpV.t rfl) (fun hg => RdC.blk (by first | (with_reducible repeat (first | exact List.Mem.head _ | apply List.Mem.tail)); done | (repeat (first | exact List.Mem.head _ | apply List.Mem.tail)))) one59 rfl ?_
  refine D_lenP (X := a0_1) GC.none (OpV.t rfl) el59 ?_
  refine D_bin GC.none (OpV.t rfl) (OpV.t rfl) (fun hg => bv_lss) ?_
  refine DV_nil ?_
  refine Give_is rfl rfl ?_
  refine Give_drop rfl ?_
  refine Give_drop rfl ?_
  refine Give_drop rfl ?_
  refine Give_drop rfl ?_
  refine Give_drop rfl ?_
  refine Give_drop rfl ?_
  refine Give_drop rfl ?_
  refine Give_drop rfl ?_
  refine Give_drop rfl ?_
  refine Give_nil ?_
  refine W_weaken (l' := [(0, _), (3, _), (34, _)]) (Sub.cons rfl (Sub.cons rfl (Sub.cons rfl (Sub.nil _)))) (MSub.refl _) ?_
  refine W_cond rfl (fun hc1 => ?_) (fun hc1 => ?_)
  · skip
    replace hp := cond_t hc1 hp
    refine W_seq ?_
    have ho := hp; clear hp; obtain ⟨u2, hy2, hp⟩ := idx_bind ho; clear ho
    refine W_D0 [3] mix (by kernel_rfl) rfl ?_
    refine D_move GC.none (OpV.t rfl) ?_
    refine D_move GC.none (OpV.t rfl) ?_
    refine D_nilCheck GC.none (OpV.t rfl) ?_
    refine D_fieldAddr GC.none (OpV.t rfl) fld141_0 ?_
    refine D_load GC.none (OpV.t rfl) (fun hg => RdC.blk (by first | (with_reducible repeat (first | exact List.Mem.head _ | apply List.Mem.tail)); done | (repeat (first | exact List.Mem.head _ | apply List.Mem.tail)))) one59 rfl ?_
    refine D_move GC.none (OpV.t rfl) ?_
    refine D_nilCheck GC.none (OpV.t rfl) ?_
    refine D_fieldAddr GC.none (OpV.t rfl) fld141_1 ?_
    refine D_load GC.none (OpV.t rfl) (fun hg => RdC.blk (by first | (with_reducible repeat (first | exact List.Mem.head _ | apply List.Mem.tail)); done | (repeat (first | exact List.Mem.head _ | apply List.Mem.tail)))) one3 rfl ?_
    refine D_idxA (X := a0_1) GC.none (OpV.t rfl) (OpV.t rfl) el59 (RdT.old h0_0) (fun _ => hy2) ?_
    refine D_load0 GC.none (OpV.t rfl) (fun hg => RdT.at (RdT.old h0_0) (hy2).2) one5 rfl ?_
    refine D_convInt GC.none (OpV.t rfl) und3 (by rw [und5]; rfl) ?_
    refine D_bin GC.none (OpV.t rfl) (OpV.t rfl) (fun hg => bv_add) ?_
    refine D_bin GC.none (OpV.t rfl) OpV.c (fun hg => bv_and) ?_
    refine D_assign GC.none (OpV.t rfl) ?_
    refine DV_nil ?_
    refine Give_is rfl rfl ?_
    refine Give_drop rfl ?_
    refine Give_drop rfl ?_
    refine Give_drop rfl ?_
    refine Give_drop rfl ?_
    refine Give_drop rfl ?_
    refine Give_drop rfl ?_
    refine Give_drop rfl ?_
    refine Give_drop rfl ?_
    refine Give_drop rfl ?_
    refine Give_drop rfl ?_
    refine Give_drop rfl ?_
    refine Give_drop rfl ?_
    refine Give_drop rfl ?_
    refine Give_drop rfl ?_
    refine Give_nil ?_
    refine W_region ?_
    refine L_move rfl rfl ?_
    refine L_move rfl rfl ?_
    refine L_nilCheck rfl rfl ?_
    refine L_fieldAddr rfl rfl fld141_1 ?_
    refine L_load rfl rfl (RdC.blk (by first | (with_reducible repeat (first | exact List.Mem.head _ | apply List.Mem.tail)); done | (repeat (first | exact List.Mem.head _ | apply List.Mem.tail)))) one3 rfl ?_
    refine L_binV rfl rfl rfl bv_add ?_
    refine L_nilCheck rfl rfl ?_
    refine L_fieldAddr rfl rfl fld141_1 ?_
    refine L_store rfl rfl (by first | (with_reducible repeat (first | exact Pick.here _ | apply Pick.there)); done | (repeat (first | exact Pick.here _ | apply Pick.there))) one3 rfl rfl ?_
    refine L_nil ?_
    refine W_seq ?_
    refine W_region ?_
    refine L_move rfl rfl ?_
    refine L_assign rfl rfl ?_
    refine L_nil ?_
    obtain rfl := Option.some.inj hp
    refine W_ret ?_
    refine res1 rfl (ResOK.tmp rfl) ⟨bits .and .i64 (IntKind.wrap .i64 (bits .and .i64 (bits .xor .i64 (IntKind.wrap .i64 (IntKind.wrap .i64 (a0_3 * 6364136223846793005) + 1442695040888963407) / 2 ^ (33 : Int).toNat) (IntKind.wrap .i64 (IntKind.wrap .i64 (a0_3 * 6364136223846793005) + 1442695040888963407) / 2 ^ (45 : Int).toNat)) 255 + IntKind.wrap .i64 (u2.toNat : Int))) 255, (a0_1, IntKind.wrap .i64 (a0_2 + 1), IntKind.wrap .i64 (IntKind.wrap .i64 (a0_3 * 6364136223846793005) + 1442695040888963407)), rfl, rfl, rfl, rfl⟩ (MSub.cons (by first | (with_reducible repeat (first | exact Pick.here _ | apply Pick.there)); done | (repeat (first | exact Pick.here _ | apply Pick.there))) (MSub.nil _))
  · skip
    replace hp := cond_f hc1 hp
    refine W_skip ?_
    refine W_seq ?_
    refine W_region ?_
    refine L_move rfl rfl ?_
    refine L_assign rfl rfl ?_
    refine L_nil ?_
    obtain rfl := Option.some.inj hp
    refine W_ret ?_
    refine res1 rfl (ResOK.tmp rfl) ⟨bits .and .i64 (bits .xor .i64 (IntKind.wrap .i64 (IntKind.wrap .i64 (a0_3 * 6364136223846793005) + 1442695040888963407) / 2 ^ (33 : Int).toNat) (IntKind.wrap .i64 (IntKind.wrap .i64 (a0_3 * 6364136223846793005) + 1442695040888963407) / 2 ^ (45 : Int).toNat)) 255, (a0_1, a0_2, IntKind.wrap .i64 (IntKind.wrap .i64 (a0_3 * 6364136223846793005) + 1442695040888963407)), rfl, rfl, rfl, rfl⟩ (MSub.cons (by first | (with_reducible repeat (first | exact Pick.here _ | apply Pick.there)); done | (repeat (first | exact Pick.here _ | apply Pick.there))) (MSub.nil _))

noncomputable def s_l1Below (a0 : D_l1Cur) (a1 : Int) : Option (Int × D_l1Cur) :=
  cond (decide (a1 ≤ 0)) (some (0, (a0.1, a0.2.1, a0.2.2))) (cond (decide (a1 ≤ 256)) (Option.bind (s_l1Byte (a0.1, a0.2.1, a0.2.2)) (fun y3 => Option.bind (remP y3.1 a1) (fun y4 => some (y4, (y3.2.1, y3.2.2.1, y3.2.2.2))))) (Option.bind (s_l1Byte (a0.1, a0.2.1, a0.2.2)) (fun y5 => Option.bind (s_l1Byte (y5.2.1, y5.2.2.1, y5.2.2.2)) (fun y6 => Option.bind (s_l1Byte (y6.2.1, y6.2.2.1, y6.2.2.2)) (fun y7 => Option.bind (s_l1Byte (y7.2.1, y7.2.2.1, y7.2.2.2)) (fun y8 => Option.bind (remP (IntKind.wrap .i64 (IntKind.wrap .i64 (IntKind.wrap .i64 (IntKind.wrap .i64 (y5.1 * 16777216) + IntKind.wrap .i64 (y6.1 * 65536)) + IntKind.wrap .i64 (y7.1 * 256)) + y8.1)) a1) (fun y9 => some (y9, (y8.2.1, y8.2.2.1, y8.2.2.2)))))))))

theorem s_l1Below_walk (w : World) (b0_ : Nat) (a0 : T_l1Cur) (a1 : Int) (h0_0 : GT.rd w (fps [blk b0_ (GT.cells a0) 141]) a0.1) (r : Int × D_l1Cur) (hp : s_l1Below (GT.dat a0) a1 = some r) : Spec Tryd.prog 84 [Value.pointer (some ⟨b0_, 0, none⟩), .int .i64 a1].toArray w [blk b0_ (GT.cells a0) 141] (fun v M => ∃ (x0 : Int) (y0 : T_l1Cur), v = .int .i64 x0 ∧ (GT.dat x0, GT.dat y0) = r ∧ M = [blk b0_ (GT.cells y0) 141] ∧ y0.1 = a0.1) := by
  obtain ⟨a0_1, a0_2, a0_3⟩ := a0
  change Spec _ _ ([Value.pointer (some ⟨b0_, 0, none⟩), .int .i64 a1] : List Value).toArray w _ _
  refine Spec.intro Tryd.func84 rfl Tryd.ntmps84 rfl ?_
  unfold s_l1Below at hp
  try dsimp only [dat_pair, dat_int, dat_bool, dat_str, dat_ar] at hp
  refine W_seq ?_
  refine W_region ?_
  refine L_assign rfl rfl ?_
  refine L_nil ?_
  refine W_seq ?_
  refine W_seq ?_
  refine W_region ?_
  refine L_move rfl rfl ?_
  refine L_binV rfl rfl rfl bv_leq ?_
  refine L_nil ?_
  refine W_weaken (l' := [(0, _), (1, _), (10, _)]) (Sub.cons rfl (Sub.cons rfl (Sub.cons rfl (Sub.nil _)))) (MSub.refl _) ?_
  refine W_cond rfl (fun hc1 => ?_) (fun hc1 => ?_)
  · skip
    replace hp := cond_t hc1 hp
    refine W_seq ?_
    refine W_region ?_
    refine L_assign rfl rfl ?_
    refine L_nil ?_
    obtain rfl := Option.some.inj hp
    refine W_ret ?_
    refine res1 rfl (ResOK.tmp rfl) ⟨0, (a0_1, a0_2, a0_3), rfl, rfl, rfl, rfl⟩ (MSub.cons (by first | (with_reducible repeat (first | exact Pick.here _ | apply Pick.there)); done | (repeat (first | exact Pick.here _ | apply Pick.there))) (MSub.nil _))
  · skip
    replace hp := cond_f hc1 hp
    refine W_skip ?_
    refine W_seq ?_
    refine W_seq ?_
    refine W_region ?_
    refine L_move rfl rfl ?_
    refine L_binV rfl rfl rfl bv_leq ?_
    refine L_nil ?_
    refine W_weaken (l' := [(0, _), (1, _), (12, _)]) (Sub.cons rfl (Sub.cons rfl (Sub.cons rfl (Sub.nil _)))) (MSub.refl _) ?_
    refine W_cond rfl (fun hc2 => ?_) (fun hc2 => ?_)
    · skip
      replace hp := cond_t hc2 hp
      refine W_seq ?_
      refine W_region ?_
      refine L_move rfl rfl ?_
      have ho := hp; clear hp; obtain ⟨y3, hy3, hp⟩ := bind_any ho; clear ho
      refine L_callM [blk b0_ _ _] _ rfl fn119 rfl (perm_cons (by first | (with_reducible repeat (first | exact Pick.here _ | apply Pick.there)); done | (repeat (first | exact Pick.here _ | apply Pick.there))) (perm_nil_left _)) (by exact fun w hw => s_l1Byte_walk w b0_ (a0_1, a0_2, a0_3) ((RdX.old h0_0) w hw) _ hy3) ?_
      rintro vy3 My3 ⟨y3x0, y3y0, hvy3, hdy3, rfl, hey3_0⟩
      subst hvy3
      subst hdy3
      obtain ⟨y3y0_1, y3y0_2, y3y0_3⟩ := y3y0
      obtain rfl : a0_1 = y3y0_1 := hey3_0.symm
      simp only [cells_pair, cells_int, cells_bool, cells_str, cells_TL, List.cons_append, List.nil_append]
      try dsimp only [dat_pair, dat_int, dat_bool, dat_str, dat_ar] at hp
      refine L_move rfl rfl ?_
      have ho := hp; clear hp; obtain ⟨y4, hy4, hp⟩ := bind_any ho; clear ho
      refine L_binV rfl rfl rfl (bv_remP hy4) ?_
      refine L_assign rfl rfl ?_
      refine L_nil ?_
      obtain rfl := Option.some.inj hp
      refine W_ret ?_
      refine res1 rfl (ResOK.tmp rfl) ⟨y4, (a0_1, y3y0_2, y3y0_3), rfl, rfl, rfl, rfl⟩ (MSub.cons (by first | (with_reducible repeat (first | exact Pick.here _ | apply Pick.there)); done | (repeat (first | exact Pick.here _ | apply Pick.there))) (MSub.nil _))
    · skip
      replace hp := cond_f hc2 hp
      refine W_skip ?_
      refine W_seq ?_
      refine W_region ?_
      refine L_move rfl rfl ?_
      have ho := hp; clear hp; obtain ⟨y5, hy5, hp⟩ := bind_any ho; clear ho
      refine L_callM [blk b0_ _ _] _ rfl fn119 rfl (perm_cons (by first | (with_reducible repeat (first | exact Pick.here _ | apply Pick.there)); done | (repeat (first | exact Pick.here _ | apply Pick.there))) (perm_nil_left _)) (by exact fun w hw => s_l1Byte_walk w b0_ (a0_1, a0_2, a0_3) ((RdX.old h0_0) w hw) _ hy5) ?_
      rintro vy5 My5 ⟨y5x0, y5y0, hvy5, hdy5, rfl, hey5_0⟩
      subst hvy5
      subst hdy5
      obtain ⟨y5y0_1, y5y0_2, y5y0_3⟩ := y5y0
      obtain rfl : a0_1 = y5y0_1 := hey5_0.symm
      simp only [cells_pair, cells_int, cells_bool, cells_str, cells_TL, List.cons_append, List.nil_append]
      try dsimp only [dat_pair, dat_int, dat_bool, dat_str, dat_ar] at hp
      refine L_assign rfl rfl ?_
      refine L_nil ?_
      refine W_seq ?_
      refine W_region ?_
      refine L_move rfl rfl ?_
      have ho := hp; clear hp; obtain ⟨y6, hy6, hp⟩ := bind_any ho; clear ho
      refine L_callM [blk b0_ _ _] _ rfl fn119 rfl (perm_cons (by first | (with_reducible repeat (first | exact Pick.here _ | apply Pick.there)); done | (repeat (first | exact Pick.here _ | apply Pick.there))) (perm_nil_left _)) (by exact fun w hw => s_l1Byte_walk w b0_ (a0_1, y5y0_2, y5y0_3) ((RdX.old h0_0) w hw) _ hy6) ?_
      rintro vy6 My6 ⟨y6x0, y6y0, hvy6, hdy6, rfl, hey6_0⟩
      subst hvy6
      subst hdy6
      obtain ⟨y6y0_1, y6y0_2, y6y0_3⟩ := y6y0
      obtain rfl : a0_1 = y6y0_1 := hey6_0.symm
      simp only [cells_pair, cells_int, cells_bool, cells_str, cells_TL, List.cons_append, List.nil_append]
      try dsimp only [dat_pair, dat_int, dat_bool, dat_str, dat_ar] at hp
      refine L_assign rfl rfl ?_
      refine L_nil ?_
      refine W_seq ?_
      refine W_region ?_
      refine L_move rfl rfl ?_
      have ho := hp; clear hp; obtain ⟨y7, hy7, hp⟩ := bind_any ho; clear ho
      refine L_callM [blk b0_ _ _] _ rfl fn119 rfl (perm_cons (by first | (with_reducible repeat (first | exact Pick.here _ | apply Pick.there)); done | (repeat (first | exact Pick.here _ | apply Pick.there))) (perm_nil_left _)) (by exact fun w hw => s_l1Byte_walk w b0_ (a0_1, y6y0_2, y6y0_3) ((RdX.old h0_0) w hw) _ hy7) ?_
      rintro vy7 My7 ⟨y7x0, y7y0, hvy7, hdy7, rfl, hey7_0⟩
      subst hvy7
      subst hdy7
      obtain ⟨y7y0_1, y7y0_2, y7y0_3⟩ := y7y0
      obtain rfl : a0_1 = y7y0_1 := hey7_0.symm
      simp only [cells_pair, cells_int, cells_bool, cells_str, cells_TL, List.cons_append, List.nil_append]
      try dsimp only [dat_pair, dat_int, dat_bool, dat_str, dat_ar] at hp
      refine L_assign rfl rfl ?_
      refine L_nil ?_
      refine W_seq ?_
      refine W_region ?_
      refine L_move rfl rfl ?_
      have ho := hp; clear hp; obtain ⟨y8, hy8, hp⟩ := bind_any ho; clear ho
      refine L_callM [blk b0_ _ _] _ rfl fn119 rfl (perm_cons (by first | (with_reducible repeat (first | exact Pick.here _ | apply Pick.there)); done | (repeat (first | exact Pick.here _ | apply Pick.there))) (perm_nil_left _)) (by exact fun w hw => s_l1Byte_walk w b0_ (a0_1, y7y0_2, y7y0_3) ((RdX.old h0_0) w hw) _ hy8) ?_
      rintro vy8 My8 ⟨y8x0, y8y0, hvy8, hdy8, rfl, hey8_0⟩
      subst hvy8
      subst hdy8
      obtain ⟨y8y0_1, y8y0_2, y8y0_3⟩ := y8y0
      obtain rfl : a0_1 = y8y0_1 := hey8_0.symm
      simp only [cells_pair, cells_int, cells_bool, cells_str, cells_TL, List.cons_append, List.nil_append]
      try dsimp only [dat_pair, dat_int, dat_bool, dat_str, dat_ar] at hp
      refine L_assign rfl rfl ?_
      refine L_nil ?_
      refine W_seq ?_
      refine W_region ?_
      refine L_move rfl rfl ?_
      refine L_binV rfl rfl rfl bv_mul ?_
      refine L_move rfl rfl ?_
      refine L_binV rfl rfl rfl bv_mul ?_
      refine L_binV rfl rfl rfl bv_add ?_
      refine L_move rfl rfl ?_
      refine L_binV rfl rfl rfl bv_mul ?_
      refine L_binV rfl rfl rfl bv_add ?_
      refine L_move rfl rfl ?_
      refine L_binV rfl rfl rfl bv_add ?_
      refine L_move rfl rfl ?_
      have ho := hp; clear hp; obtain ⟨y9, hy9, hp⟩ := bind_any ho; clear ho
      refine L_binV rfl rfl rfl (bv_remP hy9) ?_
      refine L_assign rfl rfl ?_
      refine L_nil ?_
      obtain rfl := Option.some.inj hp
      refine W_ret ?_
      refine res1 rfl (ResOK.tmp rfl) ⟨y9, (a0_1, y8y0_2, y8y0_3), rfl, rfl, rfl, rfl⟩ (MSub.cons (by first | (with_reducible repeat (first | exact Pick.here _ | apply Pick.there)); done | (repeat (first | exact Pick.here _ | apply Pick.there))) (MSub.nil _))

noncomputable def s_l1Text (a0 : D_l1Cur) (a1 : Int) : Option (ByteArray × D_l1Cur) :=
  Option.bind (some ([] : List UInt8)) (fun y2 => Option.bind (s_l1Below (a0.1, a0.2.1, a0.2.2) 4) (fun y3 => Option.bind (s_l1Below (y3.2.1, y3.2.2.1, y3.2.2.2) (IntKind.wrap .i64 (a1 + 1))) (fun y4 => whileP (fun s5 : (List UInt8) × Int × Int × Int => cond (decide (0 < s5.2.1)) (Option.bind (s_l1Byte (y4.2.1, s5.2.2.1, s5.2.2.2)) (fun y7 => cond (decide (y3.1 = 1)) (cond (decide (y3.1 = 2)) (Option.bind (u8P (IntKind.wrap .u8 (IntKind.wrap .i64 (97 + ((y7.1).tmod 2).tmod 4)))) (fun y10 => Option.bind (appP s5.1 [y10]) (fun y12 => some (.inl ((y12, IntKind.wrap .i64 (s5.2.1 - 1), y7.2.2.1, y7.2.2.2)))))) (Option.bind (u8P (IntKind.wrap .u8 ((y7.1).tmod 2))) (fun y13 => Option.bind (appP s5.1 [y13]) (fun y15 => some (.inl ((y15, IntKind.wrap .i64 (s5.2.1 - 1), y7.2.2.1, y7.2.2.2))))))) (cond (decide (y3.1 = 2)) (Option.bind (u8P (IntKind.wrap .u8 (IntKind.wrap .i64 (97 + (y7.1).tmod 4)))) (fun y17 => Option.bind (appP s5.1 [y17]) (fun y19 => some (.inl ((y19, IntKind.wrap .i64 (s5.2.1 - 1), y7.2.2.1, y7.2.2.2)))))) (Option.bind (u8P (IntKind.wrap .u8 y7.1)) (fun y20 => Option.bind (appP s5.1 [y20]) (fun y22 => some (.inl ((y22, IntKind.wrap .i64 (s5.2.1 - 1), y7.2.2.1, y7.2.2.2))))))))) (Option.map .inr (some ((strP s5.1), (y4.2.1, s5.2.2.1, s5.2.2.2))))) (y2, y4.1, y4.2.2.1, y4.2.2.2))))

theorem s_l1Text_walk (w : World) (b0_ : Nat) (a0 : T_l1Cur) (a1 : Int) (h0_0 : GT.rd w (fps [blk b0_ (GT.cells a0) 141]) a0.1) (r : ByteArray × D_l1Cur) (hp : s_l1Text (GT.dat a0) a1 = some r) : Spec Tryd.prog 94 [Value.pointer (some ⟨b0_, 0, none⟩), .int .i64 a1].toArray w [blk b0_ (GT.cells a0) 141] (fun v M => ∃ (x0 : ByteArray) (y0 : T_l1Cur), v = .string x0 ∧ (GT.dat x0, GT.dat y0) = r ∧ M = [blk b0_ (GT.cells y0) 141] ∧ y0.1 = a0.1) := by
  obtain ⟨a0_1, a0_2, a0_3⟩ := a0
  change Spec _ _ ([Value.pointer (some ⟨b0_, 0, none⟩), .int .i64 a1] : List Value).toArray w _ _
  refine Spec.intro Tryd.func94 rfl Tryd.ntmps94 rfl ?_
  unfold s_l1Text at hp
  try dsimp only [dat_pair, dat_int, dat_bool, dat_str, dat_ar] at hp
  refine W_seq ?_
  refine W_region ?_
  refine L_assign rfl rfl ?_
  refine L_nil ?_
  refine W_seq ?_
  refine W_region ?_
  have ho := hp; clear hp; obtain ⟨y2, hy2, hp⟩ := bind_any ho; clear ho
  refine L_mk0 UInt8 rfl el59 (fun X1 hdX1 => ?_)
  obtain rfl : GT.dat X1 = y2 := hdX1.trans (Option.some.inj hy2)
  clear hy2 hdX1
  refine L_assign rfl rfl ?_
  refine L_nil ?_
  refine W_seq ?_
  refine W_region ?_
  refine L_move rfl rfl ?_
  have ho := hp; clear hp; obtain ⟨y3, hy3, hp⟩ := bind_any ho; clear ho
  refine L_callM [blk b0_ _ _] _ rfl fn84 rfl (perm_cons (by first | (with_reducible repeat (first | exact Pick.here _ | apply Pick.there)); done | (repeat (first | exact Pick.here _ | apply Pick.there))) (perm_nil_left _)) (by exact fun w hw => s_l1Below_walk w b0_ (a0_1, a0_2, a0_3) 4 ((RdX.old h0_0) w hw) _ hy3) ?_
  rintro vy3 My3 ⟨y3x0, y3y0, hvy3, hdy3, rfl, hey3_0⟩
  subst hvy3
  subst hdy3
  obtain ⟨y3y0_1, y3y0_2, y3y0_3⟩ := y3y0
  obtain rfl : a0_1 = y3y0_1 := hey3_0.symm
  simp only [cells_pair, cells_int, cells_bool, cells_str, cells_TL, List.cons_append, List.nil_append]
  try dsimp only [dat_pair, dat_int, dat_bool, dat_str, dat_ar] at hp
  refine L_assign rfl rfl ?_
  refine L_nil ?_
  refine W_seq ?_
  refine W_seq ?_
  refine W_region ?_
  refine L_move rfl rfl ?_
  refine L_move rfl rfl ?_
  refine L_binV rfl rfl rfl bv_add ?_
  have ho := hp; clear hp; obtain ⟨y4, hy4, hp⟩ := bind_any ho; clear ho
  refine L_callM [blk b0_ _ _] _ rfl fn84 rfl (perm_cons (by first | (with_reducible repeat (first | exact Pick.here _ | apply Pick.there)); done | (repeat (first | exact Pick.here _ | apply Pick.there))) (perm_nil_left _)) (by exact fun w hw => s_l1Below_walk w b0_ (a0_1, y3y0_2, y3y0_3) (IntKind.wrap .i64 (a1 + 1)) ((RdX.old h0_0) w hw) _ hy4) ?_
  rintro vy4 My4 ⟨y4x0, y4y0, hvy4, hdy4, rfl, hey4_0⟩
  subst hvy4
  subst hdy4
  obtain ⟨y4y0_1, y4y0_2, y4y0_3⟩ := y4y0
  obtain rfl : a0_1 = y4y0_1 := hey4_0.symm
  simp only [cells_pair, cells_int, cells_bool, cells_str, cells_TL, List.cons_append, List.nil_append]
  try dsimp only [dat_pair, dat_int, dat_bool, dat_str, dat_ar] at hp
  refine L_assign rfl rfl ?_
  refine L_nil ?_
  refine W_block ?_
  refine W_while (σ := (TL UInt8) × Int × Int × Int) GT.dat (fun ((v5_0, v5_1, v5_2, v5_3) : (TL UInt8) × Int × Int × Int) => [(5, (TL.hdr v5_0)), (7, .int .i64 v5_1)]) (fun ((v5_0, v5_1, v5_2, v5_3) : (TL UInt8) × Int × Int × Int) => [blk b0_ [(TL.hdr a0_1), .int .i64 v5_2, .int .i64 v5_3] 141, treeH v5_0]) [(0, _), (6, _)] [] (X1, y4x0, y4y0_2, y4y0_3) hp (Sub.cons rfl (Sub.cons rfl (Sub.cons rfl (Sub.cons rfl (Sub.nil _))))) (MSub.cons (by first | (with_reducible repeat (first | exact Pick.here _ | apply Pick.there)); done | (repeat (first | exact Pick.here _ | apply Pick.there))) (MSub.cons (by first | (with_reducible repeat (first | exact Pick.here _ | apply Pick.there)); done | (repeat (first | exact Pick.here _ | apply Pick.there))) (MSub.nil _))) ?_
  clear hp
  rintro ⟨v5_0, v5_1, v5_2, v5_3⟩ x5 hp hx5
  try dsimp only [dat_pair, dat_int, dat_bool, dat_str, dat_ar] at hp
  refine W_weaken (l' := [(0, _), (5, _), (6, _), (7, _)]) (Sub.cons rfl (Sub.cons rfl (Sub.cons rfl (Sub.cons rfl (Sub.nil _))))) (M' := [_, _]) (MSub.cons (by first | (with_reducible repeat (first | exact Pick.here _ | apply Pick.there)); done | (repeat (first | exact Pick.here _ | apply Pick.there))) (MSub.cons (by first | (with_reducible repeat (first | exact Pick.here _ | apply Pick.there)); done | (repeat (first | exact Pick.here _ | apply Pick.there))) (MSub.nil _))) ?_
  refine W_seq ?_
  refine W_seq ?_
  refine W_region ?_
  refine L_move rfl rfl ?_
  refine L_binV rfl rfl rfl bv_gtr ?_
  refine L_nil ?_
  refine W_weaken (l' := [(0, _), (5, _), (6, _), (7, _), (17, _)]) (Sub.cons rfl (Sub.cons rfl (Sub.cons rfl (Sub.cons rfl (Sub.cons rfl (Sub.nil _)))))) (MSub.refl _) ?_
  refine W_cond rfl (fun hc6 => ?_) (fun hc6 => ?_)
  · skip
    replace hp := cond_t hc6 hp
    refine W_skip ?_
    refine W_seq ?_
    refine W_block ?_
    refine W_seq ?_
    refine W_region ?_
    refine L_move rfl rfl ?_
    have ho := hp; clear hp; obtain ⟨y7, hy7, hp⟩ := bind_any ho; clear ho
    refine L_callM [blk b0_ _ _] _ rfl fn119 rfl (perm_cons (by first | (with_reducible repeat (first | exact Pick.here _ | apply Pick.there)); done | (repeat (first | exact Pick.here _ | apply Pick.there))) (perm_nil_left _)) (by exact fun w hw => s_l1Byte_walk w b0_ (a0_1, v5_2, v5_3) ((RdX.old h0_0) w hw) _ hy7) ?_
    rintro vy7 My7 ⟨y7x0, y7y0, hvy7, hdy7, rfl, hey7_0⟩
    subst hvy7
    subst hdy7
    obtain ⟨y7y0_1, y7y0_2, y7y0_3⟩ := y7y0
    obtain rfl : a0_1 = y7y0_1 := hey7_0.symm
    simp only [cells_pair, cells_int, cells_bool, cells_str, cells_TL, List.cons_append, List.nil_append]
    try dsimp only [dat_pair, dat_int, dat_bool, dat_str, dat_ar] at hp
    refine L_assign rfl rfl ?_
    refine L_nil ?_
    refine W_seq ?_
    refine W_seq ?_
    refine W_region ?_
    refine L_move rfl rfl ?_
    refine L_binV rfl rfl rfl bv_eql ?_
    refine L_nil ?_
    refine W_weaken (l' := [(0, _), (5, _), (6, _), (7, _), (8, _), (23, _)]) (Sub.cons rfl (Sub.cons rfl (Sub.cons rfl (Sub.cons rfl (Sub.cons rfl (Sub.cons rfl (Sub.nil _))))))) (MSub.refl _) ?_
    refine W_cond rfl (fun hc8 => ?_) (fun hc8 => ?_)
    · skip
      replace hp := cond_t hc8 hp
      refine W_region ?_
      refine L_move rfl rfl ?_
      refine L_binV rfl rfl rfl (bv_rem (by decide)) ?_
      refine L_assign rfl rfl ?_
      refine L_nil ?_
      refine W_seq ?_
      refine W_seq ?_
      refine W_region ?_
      refine L_move rfl rfl ?_
      refine L_binV rfl rfl rfl bv_eql ?_
      refine L_nil ?_
      refine W_weaken (l' := [(0, _), (5, _), (6, _), (7, _), (8, _), (27, _)]) (Sub.cons rfl (Sub.cons rfl (Sub.cons rfl (Sub.cons rfl (Sub.cons rfl (Sub.cons rfl (Sub.nil _))))))) (MSub.refl _) ?_
      refine W_cond rfl (fun hc9 => ?_) (fun hc9 => ?_)
      · skip
        replace hp := cond_t hc9 hp
        refine W_region ?_
        refine L_move rfl rfl ?_
        refine L_binV rfl rfl rfl (bv_rem (by decide)) ?_
        refine L_binV rfl rfl rfl bv_add ?_
        refine L_assign rfl rfl ?_
        refine L_nil ?_
        refine W_region ?_
        refine L_move rfl rfl ?_
        refine L_move rfl rfl ?_
        refine L_convInt rfl rfl und5 (by rw [und3]; rfl) ?_
        have ho := hp; clear hp; obtain ⟨y10, hy10, hp⟩ := bind_any ho; clear ho
        have ey10 := u8P_some hy10
        try simp only [ey10]
        refine L_buildSlice1 rfl rfl el59 rfl (by decide) (by decide) rfl (fun bb34 => ?_)
        have ho := hp; clear hp; obtain ⟨y12, hy12, hp⟩ := bind_any ho; clear ho
        refine L_app1F (X := v5_0) (y10 : UInt8) rfl rfl rfl el59 rfl rfl (by first | (with_reducible repeat (first | exact Pick.here _ | apply Pick.there)); done | (repeat (first | exact Pick.here _ | apply Pick.there))) (by first | (with_reducible repeat (first | exact List.Mem.head _ | apply List.Mem.tail)); done | (repeat (first | exact List.Mem.head _ | apply List.Mem.tail)))  hy12 (by decide) (fun X11 hdX11 => ?_)
        subst hdX11
        refine L_assign rfl rfl ?_
        refine L_nil ?_
        refine W_region ?_
        refine L_move rfl rfl ?_
        refine L_binV rfl rfl rfl bv_sub ?_
        refine L_assign rfl rfl ?_
        refine L_nil ?_
        exact ⟨(X11, IntKind.wrap .i64 (v5_1 - 1), y7y0_2, y7y0_3), (Sub.cons rfl (Sub.cons rfl (Sub.cons rfl (Sub.cons rfl (Sub.nil _))))), (Arr.sub (MSub.cons (by first | (with_reducible repeat (first | exact Pick.here _ | apply Pick.there)); done | (repeat (first | exact Pick.here _ | apply Pick.there))) (MSub.cons (by first | (with_reducible repeat (first | exact Pick.here _ | apply Pick.there)); done | (repeat (first | exact Pick.here _ | apply Pick.there))) (MSub.nil _)))), some_eq hp⟩
      · skip
        replace hp := cond_f hc9 hp
        refine W_skip ?_
        refine W_region ?_
        refine L_move rfl rfl ?_
        refine L_move rfl rfl ?_
        refine L_convInt rfl rfl und5 (by rw [und3]; rfl) ?_
        have ho := hp; clear hp; obtain ⟨y13, hy13, hp⟩ := bind_any ho; clear ho
        have ey13 := u8P_some hy13
        try simp only [ey13]
        refine L_buildSlice1 rfl rfl el59 rfl (by decide) (by decide) rfl (fun bb34 => ?_)
        have ho := hp; clear hp; obtain ⟨y15, hy15, hp⟩ := bind_any ho; clear ho
        refine L_app1F (X := v5_0) (y13 : UInt8) rfl rfl rfl el59 rfl rfl (by first | (with_reducible repeat (first | exact Pick.here _ | apply Pick.there)); done | (repeat (first | exact Pick.here _ | apply Pick.there))) (by first | (with_reducible repeat (first | exact List.Mem.head _ | apply List.Mem.tail)); done | (repeat (first | exact List.Mem.head _ | apply List.Mem.tail)))  hy15 (by decide) (fun X14 hdX14 => ?_)
        subst hdX14
        refine L_assign rfl rfl ?_
        refine L_nil ?_
        refine W_region ?_
        refine L_move rfl rfl ?_
        refine L_binV rfl rfl rfl bv_sub ?_
        refine L_assign rfl rfl ?_
        refine L_nil ?_
        exact ⟨(X14, IntKind.wrap .i64 (v5_1 - 1), y7y0_2, y7y0_3), (Sub.cons rfl (Sub.cons rfl (Sub.cons rfl (Sub.cons rfl (Sub.nil _))))), (Arr.sub (MSub.cons (by first | (with_reducible repeat (first | exact Pick.here _ | apply Pick.there)); done | (repeat (first | exact Pick.here _ | apply Pick.there))) (MSub.cons (by first | (with_reducible repeat (first | exact Pick.here _ | apply Pick.there)); done | (repeat (first | exact Pick.here _ | apply Pick.there))) (MSub.nil _)))), some_eq hp⟩
    · skip
      replace hp := cond_f hc8 hp
      refine W_skip ?_
      refine W_seq ?_
      refine W_seq ?_
      refine W_region ?_
      refine L_move rfl rfl ?_
      refine L_binV rfl rfl rfl bv_eql ?_
      refine L_nil ?_
      refine W_weaken (l' := [(0, _), (5, _), (6, _), (7, _), (8, _), (27, _)]) (Sub.cons rfl (Sub.cons rfl (Sub.cons rfl (Sub.cons rfl (Sub.cons rfl (Sub.cons rfl (Sub.nil _))))))) (MSub.refl _) ?_
      refine W_cond rfl (fun hc16 => ?_) (fun hc16 => ?_)
      · skip
        replace hp := cond_t hc16 hp
        refine W_region ?_
        refine L_move rfl rfl ?_
        refine L_binV rfl rfl rfl (bv_rem (by decide)) ?_
        refine L_binV rfl rfl rfl bv_add ?_
        refine L_assign rfl rfl ?_
        refine L_nil ?_
        refine W_region ?_
        refine L_move rfl rfl ?_
        refine L_move rfl rfl ?_
        refine L_convInt rfl rfl und5 (by rw [und3]; rfl) ?_
        have ho := hp; clear hp; obtain ⟨y17, hy17, hp⟩ := bind_any ho; clear ho
        have ey17 := u8P_some hy17
        try simp only [ey17]
        refine L_buildSlice1 rfl rfl el59 rfl (by decide) (by decide) rfl (fun bb34 => ?_)
        have ho := hp; clear hp; obtain ⟨y19, hy19, hp⟩ := bind_any ho; clear ho
        refine L_app1F (X := v5_0) (y17 : UInt8) rfl rfl rfl el59 rfl rfl (by first | (with_reducible repeat (first | exact Pick.here _ | apply Pick.there)); done | (repeat (first | exact Pick.here _ | apply Pick.there))) (by first | (with_reducible repeat (first | exact List.Mem.head _ | apply List.Mem.tail)); done | (repeat (first | exact List.Mem.head _ | apply List.Mem.tail)))  hy19 (by decide) (fun X18 hdX18 => ?_)
        subst hdX18
        refine L_assign rfl rfl ?_
        refine L_nil ?_
        refine W_region ?_
        refine L_move rfl rfl ?_
        refine L_binV rfl rfl rfl bv_sub ?_
        refine L_assign rfl rfl ?_
        refine L_nil ?_
        exact ⟨(X18, IntKind.wrap .i64 (v5_1 - 1), y7y0_2, y7y0_3), (Sub.cons rfl (Sub.cons rfl (Sub.cons rfl (Sub.cons rfl (Sub.nil _))))), (Arr.sub (MSub.cons (by first | (with_reducible repeat (first | exact Pick.here _ | apply Pick.there)); done | (repeat (first | exact Pick.here _ | apply Pick.there))) (MSub.cons (by first | (with_reducible repeat (first | exact Pick.here _ | apply Pick.there)); done | (repeat (first | exact Pick.here _ | apply Pick.there))) (MSub.nil _)))), some_eq hp⟩
      · skip
        replace hp := cond_f hc16 hp
        refine W_skip ?_
        refine W_region ?_
        refine L_move rfl rfl ?_
        refine L_move rfl rfl ?_
        refine L_convInt rfl rfl und5 (by rw [und3]; rfl) ?_
        have ho := hp; clear hp; obtain ⟨y20, hy20, hp⟩ := bind_any ho; clear ho
        have ey20 := u8P_some hy20
        try simp only [ey20]
        refine L_buildSlice1 rfl rfl el59 rfl (by decide) (by decide) rfl (fun bb34 => ?_)
        have ho := hp; clear hp; obtain ⟨y22, hy22, hp⟩ := bind_any ho; clear ho
        refine L_app1F (X := v5_0) (y20 : UInt8) rfl rfl rfl el59 rfl rfl (by first | (with_reducible repeat (first | exact Pick.here _ | apply Pick.there)); done | (repeat (first | exact Pick.here _ | apply Pick.there))) (by first | (with_reducible repeat (first | exact List.Mem.head _ | apply List.Mem.tail)); done | (repeat (first | exact List.Mem.head _ | apply List.Mem.tail)))  hy22 (by decide) (fun X21 hdX21 => ?_)
        subst hdX21
        refine L_assign rfl rfl ?_
        refine L_nil ?_
        refine W_region ?_
        refine L_move rfl rfl ?_
        refine L_binV rfl rfl rfl bv_sub ?_
        refine L_assign rfl rfl ?_
        refine L_nil ?_
        exact ⟨(X21, IntKind.wrap .i64 (v5_1 - 1), y7y0_2, y7y0_3), (Sub.cons rfl (Sub.cons rfl (Sub.cons rfl (Sub.cons rfl (Sub.nil _))))), (Arr.sub (MSub.cons (by first | (with_reducible repeat (first | exact Pick.here _ | apply Pick.there)); done | (repeat (first | exact Pick.here _ | apply Pick.there))) (MSub.cons (by first | (with_reducible repeat (first | exact Pick.here _ | apply Pick.there)); done | (repeat (first | exact Pick.here _ | apply Pick.there))) (MSub.nil _)))), some_eq hp⟩
  · skip
    replace hp := cond_f hc6 hp
    refine W_exit ?_
    have ho := hp; clear hp; obtain ⟨a23, hp, hx_a23⟩ := map_any ho; clear ho
    obtain rfl := hx5 _ hx_a23
    refine W_seq ?_
    refine W_region ?_
    refine L_move rfl rfl ?_
    refine L_toStr (X := v5_0) rfl rfl und59 und5 und9 (RdT.tree (by first | (with_reducible repeat (first | exact List.Mem.head _ | apply List.Mem.tail)); done | (repeat (first | exact List.Mem.head _ | apply List.Mem.tail)))) ?_
    refine L_assign rfl rfl ?_
    refine L_nil ?_
    obtain rfl := Option.some.inj hp
    refine W_ret ?_
    refine res1 rfl (ResOK.tmp rfl) ⟨(strP (GT.dat v5_0)), (a0_1, v5_2, v5_3), rfl, rfl, rfl, rfl⟩ (MSub.cons (by first | (with_reducible repeat (first | exact Pick.here _ | apply Pick.there)); done | (repeat (first | exact Pick.here _ | apply Pick.there))) (MSub.nil _))

noncomputable def s_l1Once (a0 : D_l1Cur) (a1 : Int) : Option (Bool × D_l1Cur) :=
  Option.bind (s_l1Below (a0.1, a0.2.1, a0.2.2) a1) (fun y1 => some (decide (y1.1 = 0), (y1.2.1, y1.2.2.1, y1.2.2.2)))

theorem s_l1Once_walk (w : World) (b0_ : Nat) (a0 : T_l1Cur) (a1 : Int) (h0_0 : GT.rd w (fps [blk b0_ (GT.cells a0) 141]) a0.1) (r : Bool × D_l1Cur) (hp : s_l1Once (GT.dat a0) a1 = some r) : Spec Tryd.prog 83 [Value.pointer (some ⟨b0_, 0, none⟩), .int .i64 a1].toArray w [blk b0_ (GT.cells a0) 141] (fun v M => ∃ (x0 : Bool) (y0 : T_l1Cur), v = .bool x0 ∧ (GT.dat x0, GT.dat y0) = r ∧ M = [blk b0_ (GT.cells y0) 141] ∧ y0.1 = a0.1) := by
  obtain ⟨a0_1, a0_2, a0_3⟩ := a0
  change Spec _ _ ([Value.pointer (some ⟨b0_, 0, none⟩), .int .i64 a1] : List Value).toArray w _ _
  refine Spec.intro Tryd.func83 rfl Tryd.ntmps83 rfl ?_
  unfold s_l1Once at hp
  try dsimp only [dat_pair, dat_int, dat_bool, dat_str, dat_ar] at hp
  refine W_seq ?_
  refine W_region ?_
  refine L_assign rfl rfl ?_
  refine L_nil ?_
  refine W_seq ?_
  refine W_region ?_
  refine L_move rfl rfl ?_
  refine L_move rfl rfl ?_
  have ho := hp; clear hp; obtain ⟨y1, hy1, hp⟩ := bind_any ho; clear ho
  refine L_callM [blk b0_ _ _] _ rfl fn84 rfl (perm_cons (by first | (with_reducible repeat (first | exact Pick.here _ | apply Pick.there)); done | (repeat (first | exact Pick.here _ | apply Pick.there))) (perm_nil_left _)) (by exact fun w hw => s_l1Below_walk w b0_ (a0_1, a0_2, a0_3) a1 ((RdX.old h0_0) w hw) _ hy1) ?_
  rintro vy1 My1 ⟨y1x0, y1y0, hvy1, hdy1, rfl, hey1_0⟩
  subst hvy1
  subst hdy1
  obtain ⟨y1y0_1, y1y0_2, y1y0_3⟩ := y1y0
  obtain rfl : a0_1 = y1y0_1 := hey1_0.symm
  simp only [cells_pair, cells_int, cells_bool, cells_str, cells_TL, List.cons_append, List.nil_append]
  try dsimp only [dat_pair, dat_int, dat_bool, dat_str, dat_ar] at hp
  refine L_binV rfl rfl rfl bv_eql ?_
  refine L_assign rfl rfl ?_
  refine L_nil ?_
  obtain rfl := Option.some.inj hp
  refine W_ret ?_
  refine res1 rfl (ResOK.tmp rfl) ⟨decide (y1x0 = 0), (a0_1, y1y0_2, y1y0_3), rfl, rfl, rfl, rfl⟩ (MSub.cons (by first | (with_reducible repeat (first | exact Pick.here _ | apply Pick.there)); done | (repeat (first | exact Pick.here _ | apply Pick.there))) (MSub.nil _))

end Go.Proofs.SL
