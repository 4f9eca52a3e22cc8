/- Walks of functions, each with the function on data that it follows. -/
import Derived.Test.YtndhmnoehapdhaaDoorWP
import Derived.Test.YtndhmnoehapdhaaDoorWCm
import Derived.Test.YtndhmnoehapdhaaDoorB3
namespace Go.Proofs.SL
open Go
theorem el73 : elOf Tryd.prog 73 = some (9, 1, 16, [.string ByteArray.empty]) := by kernel_rfl
theorem fn92 : IsFn Tryd.prog 92 := ⟨_, Tryd.func92, by kernel_rfl, rfl⟩
theorem fn118 : IsFn Tryd.prog 118 := ⟨_, Tryd.func118, by kernel_rfl, rfl⟩
theorem fn85 : IsFn Tryd.prog 85 := ⟨_, Tryd.func85, by kernel_rfl, rfl⟩
theorem fn29 : IsFn Tryd.prog 29 := ⟨_, Tryd.func29, by kernel_rfl, rfl⟩
theorem fn83 : IsFn Tryd.prog 83 := ⟨_, Tryd.func83, by kernel_rfl, rfl⟩
theorem fn22 : IsFn Tryd.prog 22 := ⟨_, Tryd.func22, by kernel_rfl, rfl⟩
theorem fn94 : IsFn Tryd.prog 94 := ⟨_, Tryd.func94, by kernel_rfl, rfl⟩
theorem fn81 : IsFn Tryd.prog 81 := ⟨_, Tryd.func81, by kernel_rfl, rfl⟩
theorem fn82 : IsFn Tryd.prog 82 := ⟨_, Tryd.func82, by kernel_rfl, rfl⟩
theorem fn38 : IsFn Tryd.prog 38 := ⟨_, Tryd.func38, by kernel_rfl, rfl⟩
theorem fn39 : IsFn Tryd.prog 39 := ⟨_, Tryd.func39, by kernel_rfl, rfl⟩
theorem fn30 : IsFn Tryd.prog 30 := ⟨_, Tryd.func30, by kernel_rfl, rfl⟩
theorem fn41 : IsFn Tryd.prog 41 := ⟨_, Tryd.func41, by kernel_rfl, rfl⟩
theorem fn23 : IsFn Tryd.prog 23 := ⟨_, Tryd.func23, by kernel_rfl, rfl⟩
theorem fn19 : IsFn Tryd.prog 19 := ⟨_, Tryd.func19, by kernel_rfl, rfl⟩
noncomputable def s_l1PickInt (a0 : D_l1Cur) (a1 : List Int) : Option (Int × D_l1Cur) :=
  Option.bind (s_l1Below (a0.1, a0.2.1, a0.2.2) (a1.length : Int)) (fun y1 => Option.bind (idx a1 y1.1) (fun y2 => some (y2, (y1.2.1, y1.2.2.1, y1.2.2.2))))

theorem s_l1PickInt_walk (w : World) (b0_ : Nat) (a0 : T_l1Cur) (a1 : TL Int) (h1 : GT.rd w (fps [blk b0_ (GT.cells a0) 141]) a1) (h0_0 : GT.rd w (fps [blk b0_ (GT.cells a0) 141]) a0.1) (r : Int × D_l1Cur) (hp : s_l1PickInt (GT.dat a0) (GT.dat a1) = some r) : Spec Tryd.prog 118 [Value.pointer (some ⟨b0_, 0, none⟩), (TL.hdr a1)].toArray w [blk b0_ (GT.cells a0) 141] (fun v M => ∃ (x0 : Int) (y0 : T_l1Cur), v = .int .i64 x0 ∧ (GT.dat x0, GT.dat y0) = r ∧ M = [blk b0_ (GT.cells y0) 141] ∧ y0.1 = a0.1) := by
  obtain ⟨a0_1, a0_2, a0_3⟩ := a0
  change Spec _ _ ([Value.pointer (some ⟨b0_, 0, none⟩), (TL.hdr a1)] : List Value).toArray w _ _
  refine Spec.intro Tryd.func118 rfl Tryd.ntmps118 rfl ?_
  unfold s_l1PickInt at hp
  try dsimp only [dat_pair, dat_int, dat_bool, dat_str, dat_ar] at hp
  refine W_seq ?_
  refine W_region ?_
  refine L_assign rfl rfl ?_
  refine L_nil ?_
  refine W_seq ?_
  refine W_region ?_
  refine L_move rfl rfl ?_
  refine L_move rfl rfl ?_
  refine L_move rfl rfl ?_
  refine L_lenP (X := a1) rfl rfl el143 ?_
  have ho := hp; clear hp; obtain ⟨y1, hy1, hp⟩ := bind_any ho; clear ho
  refine L_callM [blk b0_ _ _] _ rfl fn84 rfl (perm_cons (by first | (with_reducible repeat (first | exact Pick.here _ | apply Pick.there)); done | (repeat (first | exact Pick.here _ | apply Pick.there))) (perm_nil_left _)) (by exact fun w hw => s_l1Below_walk w b0_ (a0_1, a0_2, a0_3) ((GT.dat a1).length : Int) ((RdX.old h0_0) w hw) _ hy1) ?_
  rintro vy1 My1 ⟨y1x0, y1y0, hvy1, hdy1, rfl, hey1_0⟩
  subst hvy1
  subst hdy1
  obtain ⟨y1y0_1, y1y0_2, y1y0_3⟩ := y1y0
  obtain rfl : a0_1 = y1y0_1 := hey1_0.symm
  simp only [cells_pair, cells_int, cells_bool, cells_str, cells_TL, List.cons_append, List.nil_append]
  try dsimp only [dat_pair, dat_int, dat_bool, dat_str, dat_ar] at hp
  have ho := hp; clear hp; obtain ⟨u2, hy2, hp⟩ := idx_bind ho; clear ho
  refine L_idxA (X := a1) rfl rfl rfl el143 (RdT.old h1) hy2 ?_
  refine L_load0 rfl rfl (RdT.at (RdT.old h1) (hy2).2) one3 rfl ?_
  refine L_assign rfl rfl ?_
  refine L_nil ?_
  obtain rfl := Option.some.inj hp
  refine W_ret ?_
  refine res1 rfl (ResOK.tmp rfl) ⟨u2, (a0_1, y1y0_2, y1y0_3), rfl, rfl, rfl, rfl⟩ (MSub.cons (by first | (with_reducible repeat (first | exact Pick.here _ | apply Pick.there)); done | (repeat (first | exact Pick.here _ | apply Pick.there))) (MSub.nil _))

noncomputable def s_l1Pick (a0 : D_l1Cur) (a1 : List ByteArray) : Option (ByteArray × D_l1Cur) :=
  Option.bind (s_l1Below (a0.1, a0.2.1, a0.2.2) (a1.length : Int)) (fun y1 => Option.bind (idx a1 y1.1) (fun y2 => some (y2, (y1.2.1, y1.2.2.1, y1.2.2.2))))

theorem s_l1Pick_walk (w : World) (b0_ : Nat) (a0 : T_l1Cur) (a1 : TL ByteArray) (h1 : GT.rd w (fps [blk b0_ (GT.cells a0) 141]) a1) (h0_0 : GT.rd w (fps [blk b0_ (GT.cells a0) 141]) a0.1) (r : ByteArray × D_l1Cur) (hp : s_l1Pick (GT.dat a0) (GT.dat a1) = some r) : Spec Tryd.prog 92 [Value.pointer (some ⟨b0_, 0, none⟩), (TL.hdr a1)].toArray w [blk b0_ (GT.cells a0) 141] (fun v M => ∃ (x0 : ByteArray) (y0 : T_l1Cur), v = .string x0 ∧ (GT.dat x0, GT.dat y0) = r ∧ M = [blk b0_ (GT.cells y0) 141] ∧ y0.1 = a0.1) := by
  obtain ⟨a0_1, a0_2, a0_3⟩ := a0
  change Spec _ _ ([Value.pointer (some ⟨b0_, 0, none⟩), (TL.hdr a1)] : List Value).toArray w _ _
  refine Spec.intro Tryd.func92 rfl Tryd.ntmps92 rfl ?_
  unfold s_l1Pick at hp
  try dsimp only [dat_pair, dat_int, dat_bool, dat_str, dat_ar] at hp
  refine W_seq ?_
  refine W_region ?_
  refine L_assign rfl rfl ?_
  refine L_nil ?_
  refine W_seq ?_
  refine W_region ?_
  refine L_move rfl rfl ?_
  refine L_move rfl rfl ?_
  refine L_move rfl rfl ?_
  refine L_lenP (X := a1) rfl rfl el73 ?_
  have ho := hp; clear hp; obtain ⟨y1, hy1, hp⟩ := bind_any ho; clear ho
  refine L_callM [blk b0_ _ _] _ rfl fn84 rfl (perm_cons (by first | (with_reducible repeat (first | exact Pick.here _ | apply Pick.there)); done | (repeat (first | exact Pick.here _ | apply Pick.there))) (perm_nil_left _)) (by exact fun w hw => s_l1Below_walk w b0_ (a0_1, a0_2, a0_3) ((GT.dat a1).length : Int) ((RdX.old h0_0) w hw) _ hy1) ?_
  rintro vy1 My1 ⟨y1x0, y1y0, hvy1, hdy1, rfl, hey1_0⟩
  subst hvy1
  subst hdy1
  obtain ⟨y1y0_1, y1y0_2, y1y0_3⟩ := y1y0
  obtain rfl : a0_1 = y1y0_1 := hey1_0.symm
  simp only [cells_pair, cells_int, cells_bool, cells_str, cells_TL, List.cons_append, List.nil_append]
  try dsimp only [dat_pair, dat_int, dat_bool, dat_str, dat_ar] at hp
  have ho := hp; clear hp; obtain ⟨u2, hy2, hp⟩ := idx_bind ho; clear ho
  refine L_idxA (X := a1) rfl rfl rfl el73 (RdT.old h1) hy2 ?_
  refine L_load0 rfl rfl (RdT.at (RdT.old h1) (hy2).2) one9 rfl ?_
  refine L_assign rfl rfl ?_
  refine L_nil ?_
  obtain rfl := Option.some.inj hp
  refine W_ret ?_
  refine res1 rfl (ResOK.tmp rfl) ⟨u2, (a0_1, y1y0_2, y1y0_3), rfl, rfl, rfl, rfl⟩ (MSub.cons (by first | (with_reducible repeat (first | exact Pick.here _ | apply Pick.there)); done | (repeat (first | exact Pick.here _ | apply Pick.there))) (MSub.nil _))

noncomputable def s_l7Data (a0 : D_l1Cur) : Option (ByteArray × D_l1Cur) :=
  Option.bind (some ([ByteArray.empty, (ByteArray.mk #[97]), (ByteArray.mk #[98, 98]), (ByteArray.mk #[99, 99, 99]), (ByteArray.mk #[104, 101, 108, 108, 111]), (ByteArray.mk #[0]), (ByteArray.mk #[119, 111, 114, 108, 100, 32, 97, 110, 100, 32, 109, 111, 114, 101])] : List ByteArray)) (fun y1 => Option.bind (s_l1Pick (a0.1, a0.2.1, a0.2.2) y1) (fun y3 => some (y3.1, (y3.2.1, y3.2.2.1, y3.2.2.2))))

theorem s_l7Data_walk (w : World) (b0_ : Nat) (a0 : T_l1Cur) (h0_0 : GT.rd w (fps [blk b0_ (GT.cells a0) 141]) a0.1) (r : ByteArray × D_l1Cur) (hp : s_l7Data (GT.dat a0) = some r) : Spec Tryd.prog 85 [Value.pointer (some ⟨b0_, 0, none⟩)].toArray w [blk b0_ (GT.cells a0) 141] (fun v M => ∃ (x0 : ByteArray) (y0 : T_l1Cur), v = .string x0 ∧ (GT.dat x0, GT.dat y0) = r ∧ M = [blk b0_ (GT.cells y0) 141] ∧ y0.1 = a0.1) := by
  obtain ⟨a0_1, a0_2, a0_3⟩ := a0
  change Spec _ _ ([Value.pointer (some ⟨b0_, 0, none⟩)] : List Value).toArray w _ _
  refine Spec.intro Tryd.func85 rfl Tryd.ntmps85 rfl ?_
  unfold s_l7Data at hp
  try dsimp only [dat_pair, dat_int, dat_bool, dat_str, dat_ar] at hp
  refine W_seq ?_
  refine W_region ?_
  refine L_assign rfl rfl ?_
  refine L_nil ?_
  refine W_seq ?_
  refine W_region ?_
  refine L_move rfl rfl ?_
  have ho := hp; clear hp; obtain ⟨y1, hy1, hp⟩ := bind_any ho; clear ho
  refine L_bsN ([ByteArray.empty, (ByteArray.mk #[97]), (ByteArray.mk #[98, 98]), (ByteArray.mk #[99, 99, 99]), (ByteArray.mk #[104, 101, 108, 108, 111]), (ByteArray.mk #[0]), (ByteArray.mk #[119, 111, 114, 108, 100, 32, 97, 110, 100, 32, 109, 111, 114, 101])] : List ByteArray) (xs := [(0, .const (.string ByteArray.empty)), (1, .const (.string (ByteArray.mk #[97]))), (2, .const (.string (ByteArray.mk #[98, 98]))), (3, .const (.string (ByteArray.mk #[99, 99, 99]))), (4, .const (.string (ByteArray.mk #[104, 101, 108, 108, 111]))), (5, .const (.string (ByteArray.mk #[0]))), (6, .const (.string (ByteArray.mk #[119, 111, 114, 108, 100, 32, 97, 110, 100, 32, 109, 111, 114, 101])))]) rfl rfl el73 rfl rfl rfl rfl rfl rfl rfl hy1 (fun X2 hdX2 => ?_)
  subst hdX2
  have ho := hp; clear hp; obtain ⟨y3, hy3, hp⟩ := bind_any ho; clear ho
  refine L_callM [blk b0_ _ _] _ rfl fn92 rfl (perm_cons (by first | (with_reducible repeat (first | exact Pick.here _ | apply Pick.there)); done | (repeat (first | exact Pick.here _ | apply Pick.there))) (perm_nil_left _)) (by exact fun w hw => s_l1Pick_walk w b0_ (a0_1, a0_2, a0_3) X2 ((RdX.tree (by first | (with_reducible repeat (first | exact List.Mem.head _ | apply List.Mem.tail)); done | (repeat (first | exact List.Mem.head _ | apply List.Mem.tail)))) w hw) ((RdX.old h0_0) w hw) _ hy3) ?_
  rintro vy3 My3 ⟨y3x0, y3y0, hvy3, hdy3, rfl, hey3_0⟩
  subst hvy3
  subst hdy3
  obtain ⟨y3y0_1, y3y0_2, y3y0_3⟩ := y3y0
  obtain rfl : a0_1 = y3y0_1 := hey3_0.symm
  simp only [cells_pair, cells_int, cells_bool, cells_str, cells_TL, List.cons_append, List.nil_append]
  try dsimp only [dat_pair, dat_int, dat_bool, dat_str, dat_ar] at hp
  refine L_assign rfl rfl ?_
  refine L_nil ?_
  obtain rfl := Option.some.inj hp
  refine W_ret ?_
  refine res1 rfl (ResOK.tmp rfl) ⟨y3x0, (a0_1, y3y0_2, y3y0_3), rfl, rfl, rfl, rfl⟩ (MSub.cons (by first | (with_reducible repeat (first | exact Pick.here _ | apply Pick.there)); done | (repeat (first | exact Pick.here _ | apply Pick.there))) (MSub.nil _))

noncomputable def s_l7Some (a0 : D_l1Cur) : Option (D_Blobs × D_l1Cur) :=
  Option.bind (some ([1000, 100, 20, 0] : List Int)) (fun y1 => Option.bind (s_l1PickInt (a0.1, a0.2.1, a0.2.2) y1) (fun y3 => Option.bind (s_l1Below (y3.2.1, y3.2.2.1, y3.2.2.2) 9) (fun y4 => whileP (fun s5 : Int × Int × Int × Int × (List D_Blob) => cond (decide (0 < s5.1)) (Option.bind (s_l7Data (y4.2.1, s5.2.1, s5.2.2.1)) (fun y7 => Option.bind (s_BlobPut (s5.2.2.2.1, s5.2.2.2.2) y7.1) (fun y8 => Option.bind (s_l1Once (y7.2.1, y7.2.2.1, y7.2.2.2) 5) (fun y10 => cond y10.1 (Option.bind (s_l7Data (y10.2.1, y10.2.2.1, y10.2.2.2)) (fun y12 => Option.bind (s_Short y12.1) (fun y13 => Option.bind (s_BlobBend (y8.1.1, y8.1.2) y13) (fun y14 => some (.inl ((IntKind.wrap .i64 (s5.1 - 1), y12.2.2.1, y12.2.2.2, y14.1.1, y14.1.2))))))) (some (.inl ((IntKind.wrap .i64 (s5.1 - 1), y10.2.2.1, y10.2.2.2, y8.1.1, y8.1.2)))))))) (Option.map .inr (Option.bind (s_l1Once (y4.2.1, s5.2.1, s5.2.2.1) 10) (fun y17 => cond y17.1 (Option.bind (s_l1Below (y17.2.1, y17.2.2.1, y17.2.2.2) 3) (fun y19 => cond (decide (y19.1 = 0)) (Option.bind (some ([(-1), 3, 1000, 1001] : List Int)) (fun y21 => Option.bind (s_l1PickInt (y19.2.1, y19.2.2.1, y19.2.2.2) y21) (fun y23 => some ((y23.1, s5.2.2.2.2), (y23.2.1, y23.2.2.1, y23.2.2.2))))) (cond (decide (y19.1 = 1)) (Option.bind (s_l1Text (y19.2.1, y19.2.2.1, y19.2.2.2) 9) (fun y25 => Option.bind (appP s5.2.2.2.2 [(y25.1, ByteArray.empty, false)]) (fun y27 => some ((s5.2.2.2.1, y27), (y25.2.1, y25.2.2.1, y25.2.2.2))))) (cond (decide (0 < (s5.2.2.2.2.length : Int))) (Option.bind (idx s5.2.2.2.2 0) (fun y29 => Option.bind (idx s5.2.2.2.2 0) (fun y30 => Option.bind (some (s5.2.2.2.2.set ((0 : Int).toNat) (y30.1, y30.2.1, (!y29.2.2)))) (fun y31 => some ((s5.2.2.2.1, y31), (y19.2.1, y19.2.2.1, y19.2.2.2)))))) (some ((s5.2.2.2.1, s5.2.2.2.2), (y19.2.1, y19.2.2.1, y19.2.2.2))))))) (some ((s5.2.2.2.1, s5.2.2.2.2), (y17.2.1, y17.2.2.1, y17.2.2.2))))))) (y4.1, y4.2.2.1, y4.2.2.2, y3.1, ([] : List D_Blob)))))

theorem s_l7Some_walk (w : World) (b0_ : Nat) (a0 : T_l1Cur) (h0_0 : GT.rd w (fps [blk b0_ (GT.cells a0) 141]) a0.1) (r : D_Blobs × D_l1Cur) (hp : s_l7Some (GT.dat a0) = some r) : Spec Tryd.prog 82 [Value.pointer (some ⟨b0_, 0, none⟩)].toArray w [blk b0_ (GT.cells a0) 141] (fun v M => ∃ (x0 : T_Blobs) (y0 : T_l1Cur), v = .agg (GT.cells x0).toArray ∧ (GT.dat x0, GT.dat y0) = r ∧ M = [treeH x0, blk b0_ (GT.cells y0) 141] ∧ y0.1 = a0.1) := by
  obtain ⟨a0_1, a0_2, a0_3⟩ := a0
  change Spec _ _ ([Value.pointer (some ⟨b0_, 0, none⟩)] : List Value).toArray w _ _
  refine Spec.intro Tryd.func82 rfl Tryd.ntmps82 rfl ?_
  unfold s_l7Some at hp
  try dsimp only [dat_pair, dat_int, dat_bool, dat_str, dat_ar] at hp
  refine W_seq ?_
  refine W_region ?_
  refine L_alloc rfl zero30 (fun bk2 => ?_)
  refine L_nil ?_
  refine W_seq ?_
  refine W_region ?_
  refine L_move rfl rfl ?_
  have ho := hp; clear hp; obtain ⟨y1, hy1, hp⟩ := bind_any ho; clear ho
  refine L_bsN ([1000, 100, 20, 0] : List Int) (xs := [(0, .const (.int .i64 1000)), (1, .const (.int .i64 100)), (2, .const (.int .i64 20)), (3, .const (.int .i64 0))]) rfl rfl el143 rfl rfl rfl rfl rfl rfl rfl hy1 (fun X2 hdX2 => ?_)
  subst hdX2
  have ho := hp; clear hp; obtain ⟨y3, hy3, hp⟩ := bind_any ho; clear ho
  refine L_callM [blk b0_ _ _] _ rfl fn118 rfl (perm_cons (by first | (with_reducible repeat (first | exact Pick.here _ | apply Pick.there)); done | (repeat (first | exact Pick.here _ | apply Pick.there))) (perm_nil_left _)) (by exact fun w hw => s_l1PickInt_walk w b0_ (a0_1, a0_2, a0_3) X2 ((RdX.tree (by first | (with_reducible repeat (first | exact List.Mem.head _ | apply List.Mem.tail)); done | (repeat (first | exact List.Mem.head _ | apply List.Mem.tail)))) w hw) ((RdX.old h0_0) w hw) _ hy3) ?_
  rintro vy3 My3 ⟨y3x0, y3y0, hvy3, hdy3, rfl, hey3_0⟩
  subst hvy3
  subst hdy3
  obtain ⟨y3y0_1, y3y0_2, y3y0_3⟩ := y3y0
  obtain rfl : a0_1 = y3y0_1 := hey3_0.symm
  simp only [cells_pair, cells_int, cells_bool, cells_str, cells_TL, List.cons_append, List.nil_append]
  try dsimp only [dat_pair, dat_int, dat_bool, dat_str, dat_ar] at hp
  refine L_build (xs := [(0, .tmp 12)]) (cs := [.int .i64 y3x0, (TL.hdr (TL.nil T_Blob 0))]) rfl rfl bld30 rfl ?_
  refine L_alloc rfl zero30 (fun bk3 => ?_)
  refine L_storeW rfl rfl (by first | (with_reducible repeat (first | exact Pick.here _ | apply Pick.there)); done | (repeat (first | exact Pick.here _ | apply Pick.there))) (by exact agg30) (by rfl) (by first | exact allOne rfl | exact fun v hv => GT.one _ v hv | (simp [Value.oneCell', TL.hdr, Value.cells]; done)) ?_
  refine L_nil ?_
  refine W_seq ?_
  refine W_seq ?_
  refine W_region ?_
  refine L_move rfl rfl ?_
  have ho := hp; clear hp; obtain ⟨y4, hy4, hp⟩ := bind_any ho; clear ho
  refine L_callM [blk b0_ _ _] _ rfl fn84 rfl (perm_cons (by first | (with_reducible repeat (first | exact Pick.here _ | apply Pick.there)); done | (repeat (first | exact Pick.here _ | apply Pick.there))) (perm_nil_left _)) (by exact fun w hw => s_l1Below_walk w b0_ (a0_1, y3y0_2, y3y0_3) 9 ((RdX.old h0_0) w hw) _ hy4) ?_
  rintro vy4 My4 ⟨y4x0, y4y0, hvy4, hdy4, rfl, hey4_0⟩
  subst hvy4
  subst hdy4
  obtain ⟨y4y0_1, y4y0_2, y4y0_3⟩ := y4y0
  obtain rfl : a0_1 = y4y0_1 := hey4_0.symm
  simp only [cells_pair, cells_int, cells_bool, cells_str, cells_TL, List.cons_append, List.nil_append]
  try dsimp only [dat_pair, dat_int, dat_bool, dat_str, dat_ar] at hp
  refine L_assign rfl rfl ?_
  refine L_nil ?_
  refine W_block ?_
  refine W_conv (M' := treeH (TL.nil T_Blob 0) :: _) (fun w h => addNilT (τ := T_Blob) 0 h) ?_
  refine W_while (σ := Int × Int × Int × Int × (TL T_Blob)) GT.dat (fun ((v5_0, v5_1, v5_2, v5_3, v5_4) : Int × Int × Int × Int × (TL T_Blob)) => [(4, .int .i64 v5_0)]) (fun ((v5_0, v5_1, v5_2, v5_3, v5_4) : Int × Int × Int × Int × (TL T_Blob)) => [blk b0_ [(TL.hdr a0_1), .int .i64 v5_1, .int .i64 v5_2] 141, blk bk3 [.int .i64 v5_3, (TL.hdr v5_4)] 30, treeH v5_4]) [(0, _), (2, _), (3, _)] [blk bk2 _ _] (y4x0, y4y0_2, y4y0_3, y3x0, (TL.nil T_Blob 0)) hp (Sub.cons rfl (Sub.cons rfl (Sub.cons rfl (Sub.cons rfl (Sub.nil _))))) (MSub.cons (by first | (with_reducible repeat (first | exact Pick.here _ | apply Pick.there)); done | (repeat (first | exact Pick.here _ | apply Pick.there))) (MSub.cons (by first | (with_reducible repeat (first | exact Pick.here _ | apply Pick.there)); done | (repeat (first | exact Pick.here _ | apply Pick.there))) (MSub.cons (by first | (with_reducible repeat (first | exact Pick.here _ | apply Pick.there)); done | (repeat (first | exact Pick.here _ | apply Pick.there))) (MSub.cons (by first | (with_reducible repeat (first | exact Pick.here _ | apply Pick.there)); done | (repeat (first | exact Pick.here _ | apply Pick.there))) (MSub.nil _))))) ?_
  clear hp
  rintro ⟨v5_0, v5_1, v5_2, v5_3, v5_4⟩ x5 hp hx5
  try dsimp only [dat_pair, dat_int, dat_bool, dat_str, dat_ar] at hp
  refine W_weaken (l' := [(0, _), (2, _), (3, _), (4, _)]) (Sub.cons rfl (Sub.cons rfl (Sub.cons rfl (Sub.cons rfl (Sub.nil _))))) (M' := [_, _, _, _]) (MSub.cons (by first | (with_reducible repeat (first | exact Pick.here _ | apply Pick.there)); done | (repeat (first | exact Pick.here _ | apply Pick.there))) (MSub.cons (by first | (with_reducible repeat (first | exact Pick.here _ | apply Pick.there)); done | (repeat (first | exact Pick.here _ | apply Pick.there))) (MSub.cons (by first | (with_reducible repeat (first | exact Pick.here _ | apply Pick.there)); done | (repeat (first | exact Pick.here _ | apply Pick.there))) (MSub.cons (by first | (with_reducible repeat (first | exact Pick.here _ | apply Pick.there)); done | (repeat (first | exact Pick.here _ | apply Pick.there))) (MSub.nil _))))) ?_
  refine W_seq ?_
  refine W_seq ?_
  refine W_region ?_
  refine L_move rfl rfl ?_
  refine L_binV rfl rfl rfl bv_gtr ?_
  refine L_nil ?_
  refine W_weaken (l' := [(0, _), (2, _), (3, _), (4, _), (17, _)]) (Sub.cons rfl (Sub.cons rfl (Sub.cons rfl (Sub.cons rfl (Sub.cons rfl (Sub.nil _)))))) (MSub.refl _) ?_
  refine W_cond rfl (fun hc6 => ?_) (fun hc6 => ?_)
  · skip
    replace hp := cond_t hc6 hp
    refine W_skip ?_
    refine W_seq ?_
    refine W_block ?_
    refine W_seq ?_
    have ho := hp; clear hp; obtain ⟨y7, hy7, hp⟩ := bind_any ho; clear ho
    have ho := hp; clear hp; obtain ⟨y8, hy8, hp⟩ := bind_any ho; clear ho
    refine W_DS (pre := [_, _, _, _, _, _, _, _, _, _, _, _]) (suf := []) [5, 23] [blk b0_ _ 141] _ (perm_cons (by first | (with_reducible repeat (first | exact Pick.here _ | apply Pick.there)); done | (repeat (first | exact Pick.here _ | apply Pick.there))) (perm_nil_left _)) mix (by kernel_rfl) (by kernel_rfl) rfl ?_
    refine D_loadW GC.none (OpV.t rfl) (fun hg => RdC.blk (by first | (with_reducible repeat (first | exact List.Mem.head _ | apply List.Mem.tail)); done | (repeat (first | exact List.Mem.head _ | apply List.Mem.tail)))) (by exact agg30) ?_
    refine D_move GC.none (OpV.t rfl) ?_
    refine D_callM (fun v M => ∃ (x0 : ByteArray) (y0 : T_l1Cur), v = .string x0 ∧ (GT.dat x0, GT.dat y0) = y7 ∧ M = [blk b0_ (GT.cells y0) 141] ∧ y0.1 = a0_1) [blk b0_ _ 141] (perm_cons (by first | (with_reducible repeat (first | exact Pick.here _ | apply Pick.there)); done | (repeat (first | exact Pick.here _ | apply Pick.there))) (perm_nil_left _)) fn85 (OpVs.cons (OpV.t rfl) (OpVs.nil)) (by exact fun w F hw hM => s_l7Data_walk w b0_ (a0_1, v5_1, v5_2) ((RdX.old h0_0) w hw) _ hy7) ?_
    refine D_call1R (fun v M => ∃ (x0 : T_Blobs) (x1 : ByteArray) (x2 : Int), v = .tuple #[.agg (GT.cells x0).toArray, .string x1, .int .i64 x2] ∧ (GT.dat x0, GT.dat x1, GT.dat x2) = y8 ∧ M = [treeH x0]) fn29 (OpVs.cons (OpV.t rfl) (OpVs.cons (show OpV _ _ _ (.string y7.1) from ⟨_, rfl, fun u M h hc => by obtain ⟨x0, z0, hv, hd, _⟩ := h; subst hd; exact hv⟩) (OpVs.nil))) (by exact fun w F hF hM => s_BlobPut_walk w (v5_3, v5_4) y7.1 (RdT.nowS (RdT.pair RdT.int (RdT.tree (by first | (with_reducible repeat (first | exact List.Mem.head _ | apply List.Mem.tail)); done | (repeat (first | exact List.Mem.head _ | apply List.Mem.tail))))) hF hM) _ hy8) ?_
    refine D_moveC (t := 24) rfl (by kernel_rfl) ?_
    refine D_extractC (t := 20) (AggV (τ := T_Blobs) y8.1) rfl (by rintro v M ⟨x0, x1, x2, rfl, hd, rfl⟩; subst hd; exact ⟨_, _, rfl, rfl, x0, rfl, rfl, rfl⟩) (by kernel_rfl) ?_
    refine D_extractW (t := 20) (.string y8.2.1) rfl (by rintro v M ⟨-, M', x0, x1, x2, rfl, hd, -⟩; subst hd; exact ⟨_, rfl, rfl⟩) ?_
    refine D_extractW (t := 20) (.int .i64 y8.2.2) rfl (by rintro v M ⟨-, M', x0, x1, x2, rfl, hd, -⟩; subst hd; exact ⟨_, rfl, rfl⟩) ?_
    refine D_alloc zero30 ?_
    refine D_storeK (p := 5) (x := 25) rfl rfl (by exact agg30) rfl (by kernel_rfl) ?_
    refine D_assign GC.none (OpV.t rfl) ?_
    refine D_assign GC.none (OpV.t rfl) ?_
    refine DV_nil ?_
    refine Give_drop rfl ?_
    refine Give_drop rfl ?_
    refine Give_R rfl rfl ?_
    rintro vX9 MX9 ⟨bk5, X9, hvX9, hdX9, rfl⟩
    subst hvX9
    try rw [← hdX9] at hp
    obtain ⟨X9_1, X9_2⟩ := X9
    refine Give_drop rfl ?_
    refine Give_drop rfl ?_
    refine Give_drop rfl ?_
    refine Give_cons rfl ?_
    refine Give_cons rfl ?_
    refine Give_cons rfl ?_
    refine Give_R rfl rfl ?_
    rintro vy7 My7 ⟨y7x0, y7y0, hvy7, hdy7, rfl, hey7_0⟩
    subst hvy7
    subst hdy7
    obtain ⟨y7y0_1, y7y0_2, y7y0_3⟩ := y7y0
    obtain rfl : a0_1 = y7y0_1 := hey7_0.symm
    refine Give_drop rfl ?_
    refine Give_drop rfl ?_
    refine Give_nil ?_
    simp only [cells_pair, cells_int, cells_bool, cells_str, cells_TL, List.cons_append, List.nil_append]
    try dsimp only [dat_pair, dat_int, dat_bool, dat_str, dat_ar] at hp
    refine L_conv (M' := treeH X9_2 :: _) (fun w h => exR (a := X9_1) (by first | (with_reducible repeat (first | exact Pick.here _ | apply Pick.there)); done | (repeat (first | exact Pick.here _ | apply Pick.there))) h) ?_
    refine L_nil ?_
    refine W_seq ?_
    refine W_region ?_
    refine L_loadW rfl rfl (RdC.blk (by first | (with_reducible repeat (first | exact List.Mem.head _ | apply List.Mem.tail)); done | (repeat (first | exact List.Mem.head _ | apply List.Mem.tail)))) (by exact agg30) ?_
    refine L_storeW rfl rfl (by first | (with_reducible repeat (first | exact Pick.here _ | apply Pick.there)); done | (repeat (first | exact Pick.here _ | apply Pick.there))) (by exact agg30) (by rfl) (by first | exact allOne rfl | exact fun v hv => GT.one _ v hv | (simp [Value.oneCell', TL.hdr, Value.cells]; done)) ?_
    refine L_nil ?_
    refine W_seq ?_
    refine W_region ?_
    refine L_move rfl rfl ?_
    have ho := hp; clear hp; obtain ⟨y10, hy10, hp⟩ := bind_any ho; clear ho
    refine L_callM [blk b0_ _ _] _ rfl fn83 rfl (perm_cons (by first | (with_reducible repeat (first | exact Pick.here _ | apply Pick.there)); done | (repeat (first | exact Pick.here _ | apply Pick.there))) (perm_nil_left _)) (by exact fun w hw => s_l1Once_walk w b0_ (a0_1, y7y0_2, y7y0_3) 5 ((RdX.old h0_0) w hw) _ hy10) ?_
    rintro vy10 My10 ⟨y10x0, y10y0, hvy10, hdy10, rfl, hey10_0⟩
    subst hvy10
    subst hdy10
    obtain ⟨y10y0_1, y10y0_2, y10y0_3⟩ := y10y0
    obtain rfl : a0_1 = y10y0_1 := hey10_0.symm
    simp only [cells_pair, cells_int, cells_bool, cells_str, cells_TL, List.cons_append, List.nil_append]
    try dsimp only [dat_pair, dat_int, dat_bool, dat_str, dat_ar] at hp
    refine L_nil ?_
    refine W_weaken (l' := [(0, _), (2, _), (3, _), (4, _), (30, _)]) (Sub.cons rfl (Sub.cons rfl (Sub.cons rfl (Sub.cons rfl (Sub.cons rfl (Sub.nil _)))))) (MSub.refl _) ?_
    refine W_cond rfl (fun hc11 => ?_) (fun hc11 => ?_)
    · skip
      replace hp := cond_t hc11 hp
      refine W_seq ?_
      have ho := hp; clear hp; obtain ⟨y12, hy12, hp⟩ := bind_any ho; clear ho
      have ho := hp; clear hp; obtain ⟨y13, hy13, hp⟩ := bind_any ho; clear ho
      have ho := hp; clear hp; obtain ⟨y14, hy14, hp⟩ := bind_any ho; clear ho
      refine W_DS (pre := [_, _, _, _, _, _, _, _, _, _, _]) (suf := []) [8, 34] [blk b0_ _ 141] _ (perm_cons (by first | (with_reducible repeat (first | exact Pick.here _ | apply Pick.there)); done | (repeat (first | exact Pick.here _ | apply Pick.there))) (perm_nil_left _)) mix (by kernel_rfl) (by kernel_rfl) rfl ?_
      refine D_loadW GC.none (OpV.t rfl) (fun hg => RdC.blk (by first | (with_reducible repeat (first | exact List.Mem.head _ | apply List.Mem.tail)); done | (repeat (first | exact List.Mem.head _ | apply List.Mem.tail)))) (by exact agg30) ?_
      refine D_move GC.none (OpV.t rfl) ?_
      refine D_callM (fun v M => ∃ (x0 : ByteArray) (y0 : T_l1Cur), v = .string x0 ∧ (GT.dat x0, GT.dat y0) = y12 ∧ M = [blk b0_ (GT.cells y0) 141] ∧ y0.1 = a0_1) [blk b0_ _ 141] (perm_cons (by first | (with_reducible repeat (first | exact Pick.here _ | apply Pick.there)); done | (repeat (first | exact Pick.here _ | apply Pick.there))) (perm_nil_left _)) fn85 (OpVs.cons (OpV.t rfl) (OpVs.nil)) (by exact fun w F hw hM => s_l7Data_walk w b0_ (a0_1, y10y0_2, y10y0_3) ((RdX.old h0_0) w hw) _ hy12) ?_
      refine D_callX GC.none fn42 (OpVs.cons (show OpV _ _ _ (.string y12.1) from ⟨_, rfl, fun u M h hc => by obtain ⟨x0, z0, hv, hd, _⟩ := h; subst hd; exact hv⟩) (OpVs.nil)) (by exact fun hg w F hF hM => s_Short_walk w y12.1  _ hy13) ?_
      refine D_call1R (fun v M => ∃ (x0 : T_Blobs) (x1 : Bool), v = .tuple #[.agg (GT.cells x0).toArray, .bool x1] ∧ (GT.dat x0, GT.dat x1) = y14 ∧ M = [treeH x0]) fn22 (OpVs.cons (OpV.t rfl) (OpVs.cons (OpV.t rfl) (OpVs.nil))) (by exact fun w F hF hM => s_BlobBend_walk w (X9_1, X9_2) y13 (RdT.nowS (RdT.pair RdT.int (RdT.tree (by first | (with_reducible repeat (first | exact List.Mem.head _ | apply List.Mem.tail)); done | (repeat (first | exact List.Mem.head _ | apply List.Mem.tail))))) hF hM) _ hy14) ?_
      refine D_moveC (t := 36) rfl (by kernel_rfl) ?_
      refine D_extractC (t := 31) (AggV (τ := T_Blobs) y14.1) rfl (by rintro v M ⟨x0, x1, rfl, hd, rfl⟩; subst hd; exact ⟨_, _, rfl, rfl, x0, rfl, rfl, rfl⟩) (by kernel_rfl) ?_
      refine D_extractW (t := 31) (.bool y14.2) rfl (by rintro v M ⟨-, M', x0, x1, rfl, hd, -⟩; subst hd; exact ⟨_, rfl, rfl⟩) ?_
      refine D_alloc zero30 ?_
      refine D_storeK (p := 8) (x := 37) rfl rfl (by exact agg30) rfl (by kernel_rfl) ?_
      refine D_assign GC.none (OpV.t rfl) ?_
      refine DV_nil ?_
      refine Give_drop rfl ?_
      refine Give_R rfl rfl ?_
      rintro vX15 MX15 ⟨bk8, X15, hvX15, hdX15, rfl⟩
      subst hvX15
      try rw [← hdX15] at hp
      obtain ⟨X15_1, X15_2⟩ := X15
      refine Give_drop rfl ?_
      refine Give_drop rfl ?_
      refine Give_cons rfl ?_
      refine Give_cons rfl ?_
      refine Give_cons rfl ?_
      refine Give_drop rfl ?_
      refine Give_R rfl rfl ?_
      rintro vy12 My12 ⟨y12x0, y12y0, hvy12, hdy12, rfl, hey12_0⟩
      subst hvy12
      subst hdy12
      obtain ⟨y12y0_1, y12y0_2, y12y0_3⟩ := y12y0
      obtain rfl : a0_1 = y12y0_1 := hey12_0.symm
      refine Give_drop rfl ?_
      refine Give_drop rfl ?_
      refine Give_nil ?_
      simp only [cells_pair, cells_int, cells_bool, cells_str, cells_TL, List.cons_append, List.nil_append]
      try dsimp only [dat_pair, dat_int, dat_bool, dat_str, dat_ar] at hp
      refine L_conv (M' := treeH X15_2 :: _) (fun w h => exR (a := X15_1) (by first | (with_reducible repeat (first | exact Pick.here _ | apply Pick.there)); done | (repeat (first | exact Pick.here _ | apply Pick.there))) h) ?_
      refine L_nil ?_
      refine W_region ?_
      refine L_loadW rfl rfl (RdC.blk (by first | (with_reducible repeat (first | exact List.Mem.head _ | apply List.Mem.tail)); done | (repeat (first | exact List.Mem.head _ | apply List.Mem.tail)))) (by exact agg30) ?_
      refine L_storeW rfl rfl (by first | (with_reducible repeat (first | exact Pick.here _ | apply Pick.there)); done | (repeat (first | exact Pick.here _ | apply Pick.there))) (by exact agg30) (by rfl) (by first | exact allOne rfl | exact fun v hv => GT.one _ v hv | (simp [Value.oneCell', TL.hdr, Value.cells]; done)) ?_
      refine L_nil ?_
      refine W_region ?_
      refine L_move rfl rfl ?_
      refine L_binV rfl rfl rfl bv_sub ?_
      refine L_assign rfl rfl ?_
      refine L_nil ?_
      exact ⟨(IntKind.wrap .i64 (v5_0 - 1), y12y0_2, y12y0_3, X15_1, X15_2), (Sub.cons rfl (Sub.cons rfl (Sub.cons rfl (Sub.cons rfl (Sub.nil _))))), (Arr.sub (MSub.cons (by first | (with_reducible repeat (first | exact Pick.here _ | apply Pick.there)); done | (repeat (first | exact Pick.here _ | apply Pick.there))) (MSub.cons (by first | (with_reducible repeat (first | exact Pick.here _ | apply Pick.there)); done | (repeat (first | exact Pick.here _ | apply Pick.there))) (MSub.cons (by first | (with_reducible repeat (first | exact Pick.here _ | apply Pick.there)); done | (repeat (first | exact Pick.here _ | apply Pick.there))) (MSub.cons (by first | (with_reducible repeat (first | exact Pick.here _ | apply Pick.there)); done | (repeat (first | exact Pick.here _ | apply Pick.there))) (MSub.nil _)))))), some_eq hp⟩
    · skip
      replace hp := cond_f hc11 hp
      refine W_skip ?_
      refine W_region ?_
      refine L_move rfl rfl ?_
      refine L_binV rfl rfl rfl bv_sub ?_
      refine L_assign rfl rfl ?_
      refine L_nil ?_
      exact ⟨(IntKind.wrap .i64 (v5_0 - 1), y10y0_2, y10y0_3, X9_1, X9_2), (Sub.cons rfl (Sub.cons rfl (Sub.cons rfl (Sub.cons rfl (Sub.nil _))))), (Arr.sub (MSub.cons (by first | (with_reducible repeat (first | exact Pick.here _ | apply Pick.there)); done | (repeat (first | exact Pick.here _ | apply Pick.there))) (MSub.cons (by first | (with_reducible repeat (first | exact Pick.here _ | apply Pick.there)); done | (repeat (first | exact Pick.here _ | apply Pick.there))) (MSub.cons (by first | (with_reducible repeat (first | exact Pick.here _ | apply Pick.there)); done | (repeat (first | exact Pick.here _ | apply Pick.there))) (MSub.cons (by first | (with_reducible repeat (first | exact Pick.here _ | apply Pick.there)); done | (repeat (first | exact Pick.here _ | apply Pick.there))) (MSub.nil _)))))), some_eq hp⟩
  · skip
    replace hp := cond_f hc6 hp
    refine W_exit ?_
    have ho := hp; clear hp; obtain ⟨a16, hp, hx_a16⟩ := map_any ho; clear ho
    obtain rfl := hx5 _ hx_a16
    refine W_seq ?_
    refine W_seq ?_
    refine W_region ?_
    refine L_move rfl rfl ?_
    have ho := hp; clear hp; obtain ⟨y17, hy17, hp⟩ := bind_any ho; clear ho
    refine L_callM [blk b0_ _ _] _ rfl fn83 rfl (perm_cons (by first | (with_reducible repeat (first | exact Pick.here _ | apply Pick.there)); done | (repeat (first | exact Pick.here _ | apply Pick.there))) (perm_nil_left _)) (by exact fun w hw => s_l1Once_walk w b0_ (a0_1, v5_1, v5_2) 10 ((RdX.old h0_0) w hw) _ hy17) ?_
    rintro vy17 My17 ⟨y17x0, y17y0, hvy17, hdy17, rfl, hey17_0⟩
    subst hvy17
    subst hdy17
    obtain ⟨y17y0_1, y17y0_2, y17y0_3⟩ := y17y0
    obtain rfl : a0_1 = y17y0_1 := hey17_0.symm
    simp only [cells_pair, cells_int, cells_bool, cells_str, cells_TL, List.cons_append, List.nil_append]
    try dsimp only [dat_pair, dat_int, dat_bool, dat_str, dat_ar] at hp
    refine L_nil ?_
    refine W_weaken (l' := [(0, _), (2, _), (3, _), (41, _)]) (Sub.cons rfl (Sub.cons rfl (Sub.cons rfl (Sub.cons rfl (Sub.nil _))))) (MSub.refl _) ?_
    refine W_cond rfl (fun hc18 => ?_) (fun hc18 => ?_)
    · skip
      replace hp := cond_t hc18 hp
      refine W_seq ?_
      refine W_region ?_
      refine L_move rfl rfl ?_
      have ho := hp; clear hp; obtain ⟨y19, hy19, hp⟩ := bind_any ho; clear ho
      refine L_callM [blk b0_ _ _] _ rfl fn84 rfl (perm_cons (by first | (with_reducible repeat (first | exact Pick.here _ | apply Pick.there)); done | (repeat (first | exact Pick.here _ | apply Pick.there))) (perm_nil_left _)) (by exact fun w hw => s_l1Below_walk w b0_ (a0_1, y17y0_2, y17y0_3) 3 ((RdX.old h0_0) w hw) _ hy19) ?_
      rintro vy19 My19 ⟨y19x0, y19y0, hvy19, hdy19, rfl, hey19_0⟩
      subst hvy19
      subst hdy19
      obtain ⟨y19y0_1, y19y0_2, y19y0_3⟩ := y19y0
      obtain rfl : a0_1 = y19y0_1 := hey19_0.symm
      simp only [cells_pair, cells_int, cells_bool, cells_str, cells_TL, List.cons_append, List.nil_append]
      try dsimp only [dat_pair, dat_int, dat_bool, dat_str, dat_ar] at hp
      refine L_nil ?_
      refine W_block ?_
      refine W_seq ?_
      refine W_region ?_
      refine L_binV rfl rfl rfl bv_eql ?_
      refine L_assign rfl rfl ?_
      refine L_nil ?_
      refine W_weaken (l' := [(0, _), (2, _), (3, _), (43, _), (58, _)]) (Sub.cons rfl (Sub.cons rfl (Sub.cons rfl (Sub.cons rfl (Sub.cons rfl (Sub.nil _)))))) (MSub.refl _) ?_
      refine W_cond rfl (fun hc20 => ?_) (fun hc20 => ?_)
      · skip
        replace hp := cond_t hc20 hp
        refine W_region ?_
        refine L_move rfl rfl ?_
        have ho := hp; clear hp; obtain ⟨y21, hy21, hp⟩ := bind_any ho; clear ho
        refine L_bsN ([(-1), 3, 1000, 1001] : List Int) (xs := [(0, .const (.int .i64 (-1))), (1, .const (.int .i64 3)), (2, .const (.int .i64 1000)), (3, .const (.int .i64 1001))]) rfl rfl el143 rfl rfl rfl rfl rfl rfl rfl hy21 (fun X22 hdX22 => ?_)
        subst hdX22
        have ho := hp; clear hp; obtain ⟨y23, hy23, hp⟩ := bind_any ho; clear ho
        refine L_callM [blk b0_ _ _] _ rfl fn118 rfl (perm_cons (by first | (with_reducible repeat (first | exact Pick.here _ | apply Pick.there)); done | (repeat (first | exact Pick.here _ | apply Pick.there))) (perm_nil_left _)) (by exact fun w hw => s_l1PickInt_walk w b0_ (a0_1, y19y0_2, y19y0_3) X22 ((RdX.tree (by first | (with_reducible repeat (first | exact List.Mem.head _ | apply List.Mem.tail)); done | (repeat (first | exact List.Mem.head _ | apply List.Mem.tail)))) w hw) ((RdX.old h0_0) w hw) _ hy23) ?_
        rintro vy23 My23 ⟨y23x0, y23y0, hvy23, hdy23, rfl, hey23_0⟩
        subst hvy23
        subst hdy23
        obtain ⟨y23y0_1, y23y0_2, y23y0_3⟩ := y23y0
        obtain rfl : a0_1 = y23y0_1 := hey23_0.symm
        simp only [cells_pair, cells_int, cells_bool, cells_str, cells_TL, List.cons_append, List.nil_append]
        try dsimp only [dat_pair, dat_int, dat_bool, dat_str, dat_ar] at hp
        refine L_fieldAddr rfl rfl fld30_0 ?_
        refine L_store rfl rfl (by first | (with_reducible repeat (first | exact Pick.here _ | apply Pick.there)); done | (repeat (first | exact Pick.here _ | apply Pick.there))) one3 rfl rfl ?_
        refine L_nil ?_
        refine W_seq ?_
        refine W_region ?_
        refine L_loadW rfl rfl (RdC.blk (by first | (with_reducible repeat (first | exact List.Mem.head _ | apply List.Mem.tail)); done | (repeat (first | exact List.Mem.head _ | apply List.Mem.tail)))) (by exact agg30) ?_
        refine L_storeW rfl rfl (by first | (with_reducible repeat (first | exact Pick.here _ | apply Pick.there)); done | (repeat (first | exact Pick.here _ | apply Pick.there))) (by exact agg30) (by rfl) (by first | exact allOne rfl | exact fun v hv => GT.one _ v hv | (simp [Value.oneCell', TL.hdr, Value.cells]; done)) ?_
        refine L_nil ?_
        obtain rfl := Option.some.inj hp
        refine W_conv (M' := treeH ((y23x0, v5_4) : Int × TL T_Blob) :: _) (fun w h => jnR (a := y23x0) (b := v5_4) (by first | (with_reducible repeat (first | exact Pick.here _ | apply Pick.there)); done | (repeat (first | exact Pick.here _ | apply Pick.there))) h) ?_
        refine W_ret ?_
        refine res1 rfl (ResOK.cell rfl (by first | (with_reducible repeat (first | exact List.Mem.head _ | apply List.Mem.tail)); done | (repeat (first | exact List.Mem.head _ | apply List.Mem.tail))) (by exact agg30)) ⟨(y23x0, v5_4), (a0_1, y23y0_2, y23y0_3), rfl, rfl, rfl, rfl⟩ (MSub.cons (by first | (with_reducible repeat (first | exact Pick.here _ | apply Pick.there)); done | (repeat (first | exact Pick.here _ | apply Pick.there))) (MSub.cons (by first | (with_reducible repeat (first | exact Pick.here _ | apply Pick.there)); done | (repeat (first | exact Pick.here _ | apply Pick.there))) (MSub.nil _)))
      · skip
        replace hp := cond_f hc20 hp
        refine W_seq ?_
        refine W_region ?_
        refine L_binV rfl rfl rfl bv_eql ?_
        refine L_assign rfl rfl ?_
        refine L_nil ?_
        refine W_weaken (l' := [(0, _), (2, _), (3, _), (64, _)]) (Sub.cons rfl (Sub.cons rfl (Sub.cons rfl (Sub.cons rfl (Sub.nil _))))) (MSub.refl _) ?_
        refine W_cond rfl (fun hc24 => ?_) (fun hc24 => ?_)
        · skip
          replace hp := cond_t hc24 hp
          have ho := hp; clear hp; obtain ⟨y25, hy25, hp⟩ := bind_any ho; clear ho
          refine W_DS (pre := [_, _, _, _, _, _]) (suf := [_, _, _]) [67, 69, 71] [blk b0_ _ 141] _ (perm_cons (by first | (with_reducible repeat (first | exact Pick.here _ | apply Pick.there)); done | (repeat (first | exact Pick.here _ | apply Pick.there))) (perm_nil_left _)) mix (by kernel_rfl) (by kernel_rfl) rfl ?_
          refine D_fieldAddr GC.none (OpV.t rfl) fld30_1 ?_
          refine D_load GC.none (OpV.t rfl) (fun hg => RdC.blk (by first | (with_reducible repeat (first | exact List.Mem.head _ | apply List.Mem.tail)); done | (repeat (first | exact List.Mem.head _ | apply List.Mem.tail)))) one28 rfl ?_
          refine D_move GC.none (OpV.t rfl) ?_
          refine D_callM (fun v M => ∃ (x0 : ByteArray) (y0 : T_l1Cur), v = .string x0 ∧ (GT.dat x0, GT.dat y0) = y25 ∧ M = [blk b0_ (GT.cells y0) 141] ∧ y0.1 = a0_1) [blk b0_ _ 141] (perm_cons (by first | (with_reducible repeat (first | exact Pick.here _ | apply Pick.there)); done | (repeat (first | exact Pick.here _ | apply Pick.there))) (perm_nil_left _)) fn94 (OpVs.cons (OpV.t rfl) (OpVs.cons OpV.c (OpVs.nil))) (by exact fun w F hw hM => s_l1Text_walk w b0_ (a0_1, y19y0_2, y19y0_3) 9 ((RdX.old h0_0) w hw) _ hy25) ?_
          refine D_build (xs := [(0, .tmp 69)]) (ps := [(0, .string y25.1)]) (cs := [.string y25.1, .string ByteArray.empty, .bool false]) (OpVp.cons (show OpV _ _ _ (.string y25.1) from ⟨_, rfl, fun u M h hc => by obtain ⟨x0, z0, hv, hd, _⟩ := h; subst hd; exact hv⟩) (OpVp.nil)) bld89 rfl ?_
          refine D_bs1 (OpV.t rfl) el28 rfl (by decide) (by decide) rfl ?_
          refine DV_nil ?_
          refine Give_R rfl rfl ?_
          rintro vr71 Mr71 ⟨bb71, hvr71, rfl⟩
          subst hvr71
          simp only [List.cons_append, List.nil_append]
          refine Give_drop rfl ?_
          refine Give_R rfl rfl ?_
          rintro vy25 My25 ⟨y25x0, y25y0, hvy25, hdy25, rfl, hey25_0⟩
          subst hvy25
          subst hdy25
          obtain ⟨y25y0_1, y25y0_2, y25y0_3⟩ := y25y0
          obtain rfl : a0_1 = y25y0_1 := hey25_0.symm
          refine Give_drop rfl ?_
          refine Give_is rfl rfl ?_
          refine Give_drop rfl ?_
          refine Give_nil ?_
          simp only [cells_pair, cells_int, cells_bool, cells_str, cells_TL, List.cons_append, List.nil_append]
          try dsimp only [dat_pair, dat_int, dat_bool, dat_str, dat_ar] at hp
          have ho := hp; clear hp; obtain ⟨y27, hy27, hp⟩ := bind_any ho; clear ho
          refine L_app1F (X := v5_4) ((y25x0, ByteArray.empty, false) : T_Blob) rfl rfl rfl el28 rfl rfl (by first | (with_reducible repeat (first | exact Pick.here _ | apply Pick.there)); done | (repeat (first | exact Pick.here _ | apply Pick.there))) (by first | (with_reducible repeat (first | exact List.Mem.head _ | apply List.Mem.tail)); done | (repeat (first | exact List.Mem.head _ | apply List.Mem.tail)))  hy27 (by decide) (fun X26 hdX26 => ?_)
          subst hdX26
          refine L_fieldAddr rfl rfl fld30_1 ?_
          refine L_store rfl rfl (by first | (with_reducible repeat (first | exact Pick.here _ | apply Pick.there)); done | (repeat (first | exact Pick.here _ | apply Pick.there))) one28 rfl rfl ?_
          refine L_nil ?_
          refine W_seq ?_
          refine W_region ?_
          refine L_loadW rfl rfl (RdC.blk (by first | (with_reducible repeat (first | exact List.Mem.head _ | apply List.Mem.tail)); done | (repeat (first | exact List.Mem.head _ | apply List.Mem.tail)))) (by exact agg30) ?_
          refine L_storeW rfl rfl (by first | (with_reducible repeat (first | exact Pick.here _ | apply Pick.there)); done | (repeat (first | exact Pick.here _ | apply Pick.there))) (by exact agg30) (by rfl) (by first | exact allOne rfl | exact fun v hv => GT.one _ v hv | (simp [Value.oneCell', TL.hdr, Value.cells]; done)) ?_
          refine L_nil ?_
          obtain rfl := Option.some.inj hp
          refine W_conv (M' := treeH ((v5_3, X26) : Int × TL T_Blob) :: _) (fun w h => jnR (a := v5_3) (b := X26) (by first | (with_reducible repeat (first | exact Pick.here _ | apply Pick.there)); done | (repeat (first | exact Pick.here _ | apply Pick.there))) h) ?_
          refine W_ret ?_
          refine res1 rfl (ResOK.cell rfl (by first | (with_reducible repeat (first | exact List.Mem.head _ | apply List.Mem.tail)); done | (repeat (first | exact List.Mem.head _ | apply List.Mem.tail))) (by exact agg30)) ⟨(v5_3, X26), (a0_1, y25y0_2, y25y0_3), rfl, rfl, rfl, rfl⟩ (MSub.cons (by first | (with_reducible repeat (first | exact Pick.here _ | apply Pick.there)); done | (repeat (first | exact Pick.here _ | apply Pick.there))) (MSub.cons (by first | (with_reducible repeat (first | exact Pick.here _ | apply Pick.there)); done | (repeat (first | exact Pick.here _ | apply Pick.there))) (MSub.nil _)))
        · skip
          replace hp := cond_f hc24 hp
          refine W_seq ?_
          refine W_region ?_
          refine L_fieldAddr rfl rfl fld30_1 ?_
          refine L_load rfl rfl (RdC.blk (by first | (with_reducible repeat (first | exact List.Mem.head _ | apply List.Mem.tail)); done | (repeat (first | exact List.Mem.head _ | apply List.Mem.tail)))) one28 rfl ?_
          refine L_lenP (X := v5_4) rfl rfl el28 ?_
          refine L_binV rfl rfl rfl bv_gtr ?_
          refine L_nil ?_
          refine W_weaken (l' := [(2, _), (3, _), (47, _)]) (Sub.cons rfl (Sub.cons rfl (Sub.cons rfl (Sub.nil _)))) (MSub.refl _) ?_
          refine W_cond rfl (fun hc28 => ?_) (fun hc28 => ?_)
          · skip
            replace hp := cond_t hc28 hp
            have ho := hp; clear hp; obtain ⟨u29, hy29, hp⟩ := idx_bind ho; clear ho
            obtain ⟨u29_1, u29_2, u29_3⟩ := u29
            refine W_DS (pre := [_, _, _, _, _, _, _, _]) (suf := [_, _, _]) [49, 55] [] _ (perm_nil_left _) mix (by kernel_rfl) (by kernel_rfl) rfl ?_
            refine D_fieldAddr GC.none (OpV.t rfl) fld30_1 ?_
            refine D_load GC.none (OpV.t rfl) (fun hg => RdC.blk (by first | (with_reducible repeat (first | exact List.Mem.head _ | apply List.Mem.tail)); done | (repeat (first | exact List.Mem.head _ | apply List.Mem.tail)))) one28 rfl ?_
            refine D_fieldAddr GC.none (OpV.t rfl) fld30_1 ?_
            refine D_load GC.none (OpV.t rfl) (fun hg => RdC.blk (by first | (with_reducible repeat (first | exact List.Mem.head _ | apply List.Mem.tail)); done | (repeat (first | exact List.Mem.head _ | apply List.Mem.tail)))) one28 rfl ?_
            refine D_idxA (X := v5_4) GC.none (OpV.t rfl) OpV.c el28 (RdT.tree (by first | (with_reducible repeat (first | exact List.Mem.head _ | apply List.Mem.tail)); done | (repeat (first | exact List.Mem.head _ | apply List.Mem.tail)))) (fun _ => hy29) ?_
            refine D_fieldAddr GC.none (OpV.t rfl) fld89_2 ?_
            refine D_load GC.none (OpV.t rfl) (fun hg => RdT.at (RdT.tree (by first | (with_reducible repeat (first | exact List.Mem.head _ | apply List.Mem.tail)); done | (repeat (first | exact List.Mem.head _ | apply List.Mem.tail)))) (hy29).2) one4 rfl ?_
            refine D_not GC.none (OpV.t rfl) ?_
            refine DV_nil ?_
            refine Give_is rfl rfl ?_
            refine Give_drop rfl ?_
            refine Give_drop rfl ?_
            refine Give_drop rfl ?_
            refine Give_drop rfl ?_
            refine Give_drop rfl ?_
            refine Give_is rfl rfl ?_
            refine Give_drop rfl ?_
            refine Give_nil ?_
            have ho := hp; clear hp; obtain ⟨u30, hy30, hp⟩ := idx_bind ho; clear ho
            obtain rfl : (u29_1, u29_2, u29_3) = u30 := Option.some.inj (hy29.2.symm.trans hy30.2)
            refine L_idxA (X := v5_4) rfl rfl rfl el28 (RdT.tree (by first | (with_reducible repeat (first | exact List.Mem.head _ | apply List.Mem.tail)); done | (repeat (first | exact List.Mem.head _ | apply List.Mem.tail)))) hy29 ?_
            refine L_fieldAddr rfl rfl fld89_2 ?_
            refine L_conv (M' := treeH (u29_1, u29_2, u29_3) :: holeH v5_4 ((0 : Int).toNat) (GT.cells (u29_1, u29_2, u29_3)) :: _) (fun w h => hole_open hy29.2 (by first | (with_reducible repeat (first | exact Pick.here _ | apply Pick.there)); done | (repeat (first | exact Pick.here _ | apply Pick.there))) h) ?_
            refine L_stH (X := v5_4) (i := (0 : Int).toNat) (sz := 3) (fo := 2) (n := 1) rfl rfl (by first | (with_reducible repeat (first | exact Pick.here _ | apply Pick.there)); done | (repeat (first | exact Pick.here _ | apply Pick.there))) rfl (.inr ⟨one4, rfl⟩) rfl (allOne rfl) (Nat.le_of_ble_eq_true rfl) ?_
            refine L_conv (M' := treeH ((u29_1, u29_2, (!u29_3)) : T_Blob) :: _) (fun w h => addF ((u29_1, u29_2, (!u29_3)) : T_Blob) h) ?_
            have ho := hp; clear hp; obtain ⟨y31, hy31, hp⟩ := bind_any ho; clear ho
            refine L_close (X := v5_4) ((u29_1, u29_2, (!u29_3)) : T_Blob) rfl (by first | (with_reducible repeat (first | exact Pick.here _ | apply Pick.there)); done | (repeat (first | exact Pick.here _ | apply Pick.there))) (by first | (with_reducible repeat (first | exact Pick.here _ | apply Pick.there)); done | (repeat (first | exact Pick.here _ | apply Pick.there))) hy31 (fun X32 hdX32 hhX32 => ?_)
            subst hdX32
            try rw [← hhX32]
            refine L_nil ?_
            refine W_seq ?_
            refine W_region ?_
            refine L_loadW rfl rfl (RdC.blk (by first | (with_reducible repeat (first | exact List.Mem.head _ | apply List.Mem.tail)); done | (repeat (first | exact List.Mem.head _ | apply List.Mem.tail)))) (by exact agg30) ?_
            refine L_storeW rfl rfl (by first | (with_reducible repeat (first | exact Pick.here _ | apply Pick.there)); done | (repeat (first | exact Pick.here _ | apply Pick.there))) (by exact agg30) (by rfl) (by first | exact allOne rfl | exact fun v hv => GT.one _ v hv | (simp [Value.oneCell', TL.hdr, Value.cells]; done)) ?_
            refine L_nil ?_
            obtain rfl := Option.some.inj hp
            refine W_conv (M' := treeH ((v5_3, X32) : Int × TL T_Blob) :: _) (fun w h => jnR (a := v5_3) (b := X32) (by first | (with_reducible repeat (first | exact Pick.here _ | apply Pick.there)); done | (repeat (first | exact Pick.here _ | apply Pick.there))) h) ?_
            refine W_ret ?_
            refine res1 rfl (ResOK.cell rfl (by first | (with_reducible repeat (first | exact List.Mem.head _ | apply List.Mem.tail)); done | (repeat (first | exact List.Mem.head _ | apply List.Mem.tail))) (by exact agg30)) ⟨(v5_3, X32), (a0_1, y19y0_2, y19y0_3), rfl, rfl, rfl, rfl⟩ (MSub.cons (by first | (with_reducible repeat (first | exact Pick.here _ | apply Pick.there)); done | (repeat (first | exact Pick.here _ | apply Pick.there))) (MSub.cons (by first | (with_reducible repeat (first | exact Pick.here _ | apply Pick.there)); done | (repeat (first | exact Pick.here _ | apply Pick.there))) (MSub.nil _)))
          · skip
            replace hp := cond_f hc28 hp
            refine W_skip ?_
            refine W_seq ?_
            refine W_region ?_
            refine L_loadW rfl rfl (RdC.blk (by first | (with_reducible repeat (first | exact List.Mem.head _ | apply List.Mem.tail)); done | (repeat (first | exact List.Mem.head _ | apply List.Mem.tail)))) (by exact agg30) ?_
            refine L_storeW rfl rfl (by first | (with_reducible repeat (first | exact Pick.here _ | apply Pick.there)); done | (repeat (first | exact Pick.here _ | apply Pick.there))) (by exact agg30) (by rfl) (by first | exact allOne rfl | exact fun v hv => GT.one _ v hv | (simp [Value.oneCell', TL.hdr, Value.cells]; done)) ?_
            refine L_nil ?_
            obtain rfl := Option.some.inj hp
            refine W_conv (M' := treeH ((v5_3, v5_4) : Int × TL T_Blob) :: _) (fun w h => jnR (a := v5_3) (b := v5_4) (by first | (with_reducible repeat (first | exact Pick.here _ | apply Pick.there)); done | (repeat (first | exact Pick.here _ | apply Pick.there))) h) ?_
            refine W_ret ?_
            refine res1 rfl (ResOK.cell rfl (by first | (with_reducible repeat (first | exact List.Mem.head _ | apply List.Mem.tail)); done | (repeat (first | exact List.Mem.head _ | apply List.Mem.tail))) (by exact agg30)) ⟨(v5_3, v5_4), (a0_1, y19y0_2, y19y0_3), rfl, rfl, rfl, rfl⟩ (MSub.cons (by first | (with_reducible repeat (first | exact Pick.here _ | apply Pick.there)); done | (repeat (first | exact Pick.here _ | apply Pick.there))) (MSub.cons (by first | (with_reducible repeat (first | exact Pick.here _ | apply Pick.there)); done | (repeat (first | exact Pick.here _ | apply Pick.there))) (MSub.nil _)))
    · skip
      replace hp := cond_f hc18 hp
      refine W_skip ?_
      refine W_seq ?_
      refine W_region ?_
      refine L_loadW rfl rfl (RdC.blk (by first | (with_reducible repeat (first | exact List.Mem.head _ | apply List.Mem.tail)); done | (repeat (first | exact List.Mem.head _ | apply List.Mem.tail)))) (by exact agg30) ?_
      refine L_storeW rfl rfl (by first | (with_reducible repeat (first | exact Pick.here _ | apply Pick.there)); done | (repeat (first | exact Pick.here _ | apply Pick.there))) (by exact agg30) (by rfl) (by first | exact allOne rfl | exact fun v hv => GT.one _ v hv | (simp [Value.oneCell', TL.hdr, Value.cells]; done)) ?_
      refine L_nil ?_
      obtain rfl := Option.some.inj hp
      refine W_conv (M' := treeH ((v5_3, v5_4) : Int × TL T_Blob) :: _) (fun w h => jnR (a := v5_3) (b := v5_4) (by first | (with_reducible repeat (first | exact Pick.here _ | apply Pick.there)); done | (repeat (first | exact Pick.here _ | apply Pick.there))) h) ?_
      refine W_ret ?_
      refine res1 rfl (ResOK.cell rfl (by first | (with_reducible repeat (first | exact List.Mem.head _ | apply List.Mem.tail)); done | (repeat (first | exact List.Mem.head _ | apply List.Mem.tail))) (by exact agg30)) ⟨(v5_3, v5_4), (a0_1, y17y0_2, y17y0_3), rfl, rfl, rfl, rfl⟩ (MSub.cons (by first | (with_reducible repeat (first | exact Pick.here _ | apply Pick.there)); done | (repeat (first | exact Pick.here _ | apply Pick.there))) (MSub.cons (by first | (with_reducible repeat (first | exact Pick.here _ | apply Pick.there)); done | (repeat (first | exact Pick.here _ | apply Pick.there))) (MSub.nil _)))

noncomputable def s_DrawBlobPut (a0 : List UInt8) : Option (D_Blobs × ByteArray) :=
  Option.bind (s_l1New a0) (fun y1 => Option.bind (s_l7Some (y1.1, y1.2.1, y1.2.2)) (fun y2 => Option.bind (s_l1Once (y2.2.1, y2.2.2.1, y2.2.2.2) 10) (fun y3 => cond y3.1 (Option.bind (s_l1Below (y3.2.1, y3.2.2.1, y3.2.2.2) 2) (fun y5 => Option.bind (mkP 1 (IntKind.wrap .i64 (40 + y5.1)) (0 : UInt8)) (fun y6 => some ((y2.1.1, y2.1.2), (strP y6))))) (Option.bind (s_l7Data (y3.2.1, y3.2.2.1, y3.2.2.2)) (fun y8 => some ((y2.1.1, y2.1.2), y8.1))))))

theorem s_DrawBlobPut_walk (w : World) (a0 : TL UInt8) (h0 : GT.rd w [] a0) (r : D_Blobs × ByteArray) (hp : s_DrawBlobPut (GT.dat a0) = some r) : Spec Tryd.prog 39 [(TL.hdr a0)].toArray w [] (fun v M => ∃ (x0 : T_Blobs) (x1 : ByteArray), v = .tuple #[.agg (GT.cells x0).toArray, .string x1] ∧ (GT.dat x0, GT.dat x1) = r ∧ M = [treeH x0]) := by
  refine Spec.intro Tryd.func39 rfl Tryd.ntmps39 rfl ?_
  unfold s_DrawBlobPut at hp
  try dsimp only [dat_pair, dat_int, dat_bool, dat_str, dat_ar] at hp
  refine W_seq ?_
  refine W_region ?_
  refine L_alloc rfl zero30 (fun bk2 => ?_)
  refine L_assign rfl rfl ?_
  refine L_nil ?_
  refine W_seq ?_
  refine W_region ?_
  refine L_move rfl rfl ?_
  have ho := hp; clear hp; obtain ⟨y1, hy1, hp⟩ := bind_any ho; clear ho
  refine L_callR rfl fn81 rfl (by exact fun w hw => s_l1New_walk w a0 (RdT.now (RdT.old h0) hw) _ hy1) ?_
  rintro vy1 My1 ⟨bky1, y1x, hvy1, hdy1, rfl, hey1_0⟩
  subst hvy1
  subst hdy1
  obtain ⟨y1x_1, y1x_2, y1x_3⟩ := y1x
  obtain rfl : a0 = y1x_1 := hey1_0.symm
  simp only [cells_pair, cells_int, cells_bool, cells_str, cells_TL, List.cons_append, List.nil_append]
  try dsimp only [dat_pair, dat_int, dat_bool, dat_str, dat_ar] at hp
  refine L_assign rfl rfl ?_
  refine L_nil ?_
  refine W_seq ?_
  refine W_region ?_
  refine L_move rfl rfl ?_
  have ho := hp; clear hp; obtain ⟨y2, hy2, hp⟩ := bind_any ho; clear ho
  refine L_callM [blk bky1 _ _] _ rfl fn82 rfl (perm_cons (by first | (with_reducible repeat (first | exact Pick.here _ | apply Pick.there)); done | (repeat (first | exact Pick.here _ | apply Pick.there))) (perm_nil_left _)) (by exact fun w hw => s_l7Some_walk w bky1 (a0, y1x_2, y1x_3) ((RdX.old h0) w hw) _ hy2) ?_
  rintro vy2 My2 ⟨y2x0, y2y0, hvy2, hdy2, rfl, hey2_0⟩
  subst hvy2
  subst hdy2
  obtain ⟨y2x0_1, y2x0_2⟩ := y2x0
  obtain ⟨y2y0_1, y2y0_2, y2y0_3⟩ := y2y0
  obtain rfl : a0 = y2y0_1 := hey2_0.symm
  simp only [cells_pair, cells_int, cells_bool, cells_str, cells_TL, List.cons_append, List.nil_append]
  try dsimp only [dat_pair, dat_int, dat_bool, dat_str, dat_ar] at hp
  refine L_conv (M' := treeH y2x0_2 :: _) (fun w h => exR (a := y2x0_1) (by first | (with_reducible repeat (first | exact Pick.here _ | apply Pick.there)); done | (repeat (first | exact Pick.here _ | apply Pick.there))) h) ?_
  refine L_alloc rfl zero30 (fun bk5 => ?_)
  refine L_storeW rfl rfl (by first | (with_reducible repeat (first | exact Pick.here _ | apply Pick.there)); done | (repeat (first | exact Pick.here _ | apply Pick.there))) (by exact agg30) (by rfl) (by first | exact allOne rfl | exact fun v hv => GT.one _ v hv | (simp [Value.oneCell', TL.hdr, Value.cells]; done)) ?_
  refine L_nil ?_
  refine W_seq ?_
  refine W_seq ?_
  refine W_region ?_
  refine L_move rfl rfl ?_
  have ho := hp; clear hp; obtain ⟨y3, hy3, hp⟩ := bind_any ho; clear ho
  refine L_callM [blk bky1 _ _] _ rfl fn83 rfl (perm_cons (by first | (with_reducible repeat (first | exact Pick.here _ | apply Pick.there)); done | (repeat (first | exact Pick.here _ | apply Pick.there))) (perm_nil_left _)) (by exact fun w hw => s_l1Once_walk w bky1 (a0, y2y0_2, y2y0_3) 10 ((RdX.old h0) w hw) _ hy3) ?_
  rintro vy3 My3 ⟨y3x0, y3y0, hvy3, hdy3, rfl, hey3_0⟩
  subst hvy3
  subst hdy3
  obtain ⟨y3y0_1, y3y0_2, y3y0_3⟩ := y3y0
  obtain rfl : a0 = y3y0_1 := hey3_0.symm
  simp only [cells_pair, cells_int, cells_bool, cells_str, cells_TL, List.cons_append, List.nil_append]
  try dsimp only [dat_pair, dat_int, dat_bool, dat_str, dat_ar] at hp
  refine L_nil ?_
  refine W_weaken (l' := [(2, _), (4, _), (5, _), (11, _)]) (Sub.cons rfl (Sub.cons rfl (Sub.cons rfl (Sub.cons rfl (Sub.nil _))))) (MSub.refl _) ?_
  refine W_cond rfl (fun hc4 => ?_) (fun hc4 => ?_)
  · skip
    replace hp := cond_t hc4 hp
    refine W_seq ?_
    have ho := hp; clear hp; obtain ⟨y5, hy5, hp⟩ := bind_any ho; clear ho
    have ho := hp; clear hp; obtain ⟨y6, hy6, hp⟩ := bind_any ho; clear ho
    refine W_DS (pre := [_, _, _, _, _, _, _, _]) (suf := []) [3, 14] [blk bky1 _ 141, blk bk2 _ _] _ (perm_cons (by first | (with_reducible repeat (first | exact Pick.here _ | apply Pick.there)); done | (repeat (first | exact Pick.here _ | apply Pick.there))) (perm_cons (by first | (with_reducible repeat (first | exact Pick.here _ | apply Pick.there)); done | (repeat (first | exact Pick.here _ | apply Pick.there))) (perm_nil_left _))) mix (by kernel_rfl) (by kernel_rfl) rfl ?_
    refine D_loadW GC.none (OpV.t rfl) (fun hg => RdC.blk (by first | (with_reducible repeat (first | exact List.Mem.head _ | apply List.Mem.tail)); done | (repeat (first | exact List.Mem.head _ | apply List.Mem.tail)))) (by exact agg30) ?_
    refine D_move GC.none (OpV.t rfl) ?_
    refine D_callM (fun v M => ∃ (x0 : Int) (y0 : T_l1Cur), v = .int .i64 x0 ∧ (GT.dat x0, GT.dat y0) = y5 ∧ M = [blk bky1 (GT.cells y0) 141] ∧ y0.1 = a0) [blk bky1 _ 141] (perm_cons (by first | (with_reducible repeat (first | exact Pick.here _ | apply Pick.there)); done | (repeat (first | exact Pick.here _ | apply Pick.there))) (perm_nil_left _)) fn84 (OpVs.cons (OpV.t rfl) (OpVs.cons OpV.c (OpVs.nil))) (by exact fun w F hw hM => s_l1Below_walk w bky1 (a0, y3y0_2, y3y0_3) 2 ((RdX.old h0) w hw) _ hy5) ?_
    refine D_bin GC.none OpV.c (show OpV _ _ _ (.int .i64 y5.1) from ⟨_, rfl, fun u M h hc => by obtain ⟨x0, z0, hv, hd, _⟩ := h; subst hd; exact hv⟩) (fun hg => bv_add) ?_
    refine D_mkP (0 : UInt8) (OpV.t rfl) (OpV.t rfl) el59 rfl rfl (FlatT.flat _) hy6 ?_
    refine D_toStrO (r := y6) (t := 16) rfl und59 und5 und9 (by kernel_rfl) ?_
    refine D_storeW (OpV.t rfl) (OpV.t rfl) (by first | (with_reducible repeat (first | exact Pick.here _ | apply Pick.there)); done | (repeat (first | exact Pick.here _ | apply Pick.there))) (by exact agg30) (by rfl) (by first | exact allOne rfl | exact fun v hv => GT.one _ v hv | (simp [Value.oneCell', TL.hdr, Value.cells]; done)) ?_
    refine D_assign GC.none (OpV.t rfl) ?_
    refine DV_nil ?_
    refine Give_is rfl rfl ?_
    refine Give_st ?_
    refine Give_drop rfl ?_
    refine Give_cons rfl ?_
    refine Give_drop rfl ?_
    refine Give_R rfl rfl ?_
    rintro vy5 My5 ⟨y5x0, y5y0, hvy5, hdy5, rfl, hey5_0⟩
    subst hvy5
    subst hdy5
    obtain ⟨y5y0_1, y5y0_2, y5y0_3⟩ := y5y0
    obtain rfl : a0 = y5y0_1 := hey5_0.symm
    refine Give_drop rfl ?_
    refine Give_drop rfl ?_
    refine Give_nil ?_
    simp only [cells_pair, cells_int, cells_bool, cells_str, cells_TL, List.cons_append, List.nil_append]
    try dsimp only [dat_pair, dat_int, dat_bool, dat_str, dat_ar] at hp
    refine L_nil ?_
    obtain rfl := Option.some.inj hp
    refine W_conv (M' := treeH ((y2x0_1, y2x0_2) : Int × TL T_Blob) :: _) (fun w h => jnR (a := y2x0_1) (b := y2x0_2) (by first | (with_reducible repeat (first | exact Pick.here _ | apply Pick.there)); done | (repeat (first | exact Pick.here _ | apply Pick.there))) h) ?_
    refine W_ret ?_
    refine res2 rfl (ResOK.cell rfl (by first | (with_reducible repeat (first | exact List.Mem.head _ | apply List.Mem.tail)); done | (repeat (first | exact List.Mem.head _ | apply List.Mem.tail))) (by exact agg30)) (ResOK.tmp rfl) ⟨(y2x0_1, y2x0_2), (strP y6), rfl, rfl, rfl⟩ (MSub.cons (by first | (with_reducible repeat (first | exact Pick.here _ | apply Pick.there)); done | (repeat (first | exact Pick.here _ | apply Pick.there))) (MSub.nil _))
  · skip
    replace hp := cond_f hc4 hp
    refine W_skip ?_
    refine W_seq ?_
    have ho := hp; clear hp; obtain ⟨y8, hy8, hp⟩ := bind_any ho; clear ho
    refine W_DS (pre := [_, _, _]) (suf := [_, _]) [18, 20] [blk bky1 _ 141] _ (perm_cons (by first | (with_reducible repeat (first | exact Pick.here _ | apply Pick.there)); done | (repeat (first | exact Pick.here _ | apply Pick.there))) (perm_nil_left _)) mix (by kernel_rfl) (by kernel_rfl) rfl ?_
    refine D_loadW GC.none (OpV.t rfl) (fun hg => RdC.blk (by first | (with_reducible repeat (first | exact List.Mem.head _ | apply List.Mem.tail)); done | (repeat (first | exact List.Mem.head _ | apply List.Mem.tail)))) (by exact agg30) ?_
    refine D_move GC.none (OpV.t rfl) ?_
    refine D_callM (fun v M => ∃ (x0 : ByteArray) (y0 : T_l1Cur), v = .string x0 ∧ (GT.dat x0, GT.dat y0) = y8 ∧ M = [blk bky1 (GT.cells y0) 141] ∧ y0.1 = a0) [blk bky1 _ 141] (perm_cons (by first | (with_reducible repeat (first | exact Pick.here _ | apply Pick.there)); done | (repeat (first | exact Pick.here _ | apply Pick.there))) (perm_nil_left _)) fn85 (OpVs.cons (OpV.t rfl) (OpVs.nil)) (by exact fun w F hw hM => s_l7Data_walk w bky1 (a0, y3y0_2, y3y0_3) ((RdX.old h0) w hw) _ hy8) ?_
    refine DV_nil ?_
    refine Give_R rfl rfl ?_
    rintro vy8 My8 ⟨y8x0, y8y0, hvy8, hdy8, rfl, hey8_0⟩
    subst hvy8
    subst hdy8
    obtain ⟨y8y0_1, y8y0_2, y8y0_3⟩ := y8y0
    obtain rfl : a0 = y8y0_1 := hey8_0.symm
    refine Give_drop rfl ?_
    refine Give_is rfl rfl ?_
    refine Give_nil ?_
    simp only [cells_pair, cells_int, cells_bool, cells_str, cells_TL, List.cons_append, List.nil_append]
    try dsimp only [dat_pair, dat_int, dat_bool, dat_str, dat_ar] at hp
    refine L_storeW rfl rfl (by first | (with_reducible repeat (first | exact Pick.here _ | apply Pick.there)); done | (repeat (first | exact Pick.here _ | apply Pick.there))) (by exact agg30) (by rfl) (by first | exact allOne rfl | exact fun v hv => GT.one _ v hv | (simp [Value.oneCell', TL.hdr, Value.cells]; done)) ?_
    refine L_assign rfl rfl ?_
    refine L_nil ?_
    obtain rfl := Option.some.inj hp
    refine W_conv (M' := treeH ((y2x0_1, y2x0_2) : Int × TL T_Blob) :: _) (fun w h => jnR (a := y2x0_1) (b := y2x0_2) (by first | (with_reducible repeat (first | exact Pick.here _ | apply Pick.there)); done | (repeat (first | exact Pick.here _ | apply Pick.there))) h) ?_
    refine W_ret ?_
    refine res2 rfl (ResOK.cell rfl (by first | (with_reducible repeat (first | exact List.Mem.head _ | apply List.Mem.tail)); done | (repeat (first | exact List.Mem.head _ | apply List.Mem.tail))) (by exact agg30)) (ResOK.tmp rfl) ⟨(y2x0_1, y2x0_2), y8x0, rfl, rfl, rfl⟩ (MSub.cons (by first | (with_reducible repeat (first | exact Pick.here _ | apply Pick.there)); done | (repeat (first | exact Pick.here _ | apply Pick.there))) (MSub.nil _))

noncomputable def i_BlobUsed (a0 : D_Blobs) : Option Int :=
  Option.bind (i_BlobsOk (a0.1, a0.2)) (fun y1 => cond (!y1) (some 0) (Option.bind (i_Blobs_used (a0.1, a0.2)) (fun y3 => some y3)))

theorem i_BlobUsed_walk (w : World) (a0 : T_Blobs) (h0 : GT.rd w [] a0) (hg0 : GT.rd w [] gV0) (r : Int) (hp : i_BlobUsed (GT.dat a0) = some r) : Spec Tryd.prog 41 [.agg (GT.cells a0).toArray].toArray w [] (IsV (.int .i64 r)) := by
  obtain ⟨a0_1, a0_2⟩ := a0
  change Spec _ _ ([Value.agg #[.int .i64 a0_1, (TL.hdr a0_2)]] : List Value).toArray w [] _
  refine Spec.intro Tryd.func41 rfl Tryd.ntmps41 rfl ?_
  unfold i_BlobUsed at hp
  try dsimp only [dat_pair, dat_int, dat_bool, dat_str, dat_ar] at hp
  refine W_seq ?_
  refine W_region ?_
  refine L_box rfl rfl (fun bk1 => ?_)
  refine L_assign rfl rfl ?_
  refine L_nil ?_
  refine W_seq ?_
  refine W_seq ?_
  refine W_region ?_
  refine L_loadW rfl rfl (RdC.blk (by first | (with_reducible repeat (first | exact List.Mem.head _ | apply List.Mem.tail)); done | (repeat (first | exact List.Mem.head _ | apply List.Mem.tail)))) (by exact agg30) ?_
  have ho := hp; clear hp; obtain ⟨y1, hy1, hp⟩ := bind_any ho; clear ho
  refine L_callX rfl fn61 rfl (by exact fun w hw => i_BlobsOk_walk w (a0_1, a0_2) (RdT.now (RdT.pair RdT.int (RdT.old h0.2)) hw) (RdT.now (RdT.old hg0) hw) _ hy1) ?_
  refine L_not rfl rfl ?_
  refine L_nil ?_
  refine W_weaken (l' := [(1, _), (5, _)]) (Sub.cons rfl (Sub.cons rfl (Sub.nil _))) (MSub.refl _) ?_
  refine W_cond rfl (fun hc2 => ?_) (fun hc2 => ?_)
  · skip
    replace hp := cond_t hc2 hp
    refine W_seq ?_
    refine W_region ?_
    refine L_assign rfl rfl ?_
    refine L_nil ?_
    obtain rfl := Option.some.inj hp
    refine W_ret ?_
    refine res1 rfl (ResOK.tmp rfl) ⟨rfl, rfl⟩ (MSub.nil _)
  · skip
    replace hp := cond_f hc2 hp
    refine W_skip ?_
    refine W_seq ?_
    refine W_region ?_
    refine L_loadW rfl rfl (RdC.blk (by first | (with_reducible repeat (first | exact List.Mem.head _ | apply List.Mem.tail)); done | (repeat (first | exact List.Mem.head _ | apply List.Mem.tail)))) (by exact agg30) ?_
    have ho := hp; clear hp; obtain ⟨y3, hy3, hp⟩ := bind_any ho; clear ho
    refine L_callX rfl fn88 rfl (by exact fun w hw => i_Blobs_used_walk w (a0_1, a0_2) (RdT.now (RdT.pair RdT.int (RdT.old h0.2)) hw) _ hy3) ?_
    refine L_assign rfl rfl ?_
    refine L_nil ?_
    obtain rfl := Option.some.inj hp
    refine W_ret ?_
    refine res1 rfl (ResOK.tmp rfl) ⟨rfl, rfl⟩ (MSub.nil _)

noncomputable def w_FnBlobs (a0 : List UInt8) : Option Bool :=
  Option.bind (w_big a0) (fun y1 => cond y1 (some true) (Option.bind (s_DrawBlobPut a0) (fun y3 => Option.bind (i_BlobPut (y3.1.1, y3.1.2) y3.2) (fun y4 => Option.bind (s_BlobPut (y3.1.1, y3.1.2) y3.2) (fun y5 => cond ((!decide (y4.2.2 = y5.2.2)) || (!decide (y4.2.1 = y5.2.1))) (some false) (cond (!decide (y4.2.2 = 0)) (gb (decide (y4.2.1 = ByteArray.empty)) (s_BlobsOk (y3.1.1, y3.1.2)) (fun y8 => gb ((decide (y4.2.1 = ByteArray.empty)) && (!(!y8))) (i_BlobUsed (y4.1.1, y4.1.2)) (fun y9 => gb ((decide (y4.2.1 = ByteArray.empty)) && (!(!y8))) (i_BlobUsed (y3.1.1, y3.1.2)) (fun y10 => some ((decide (y4.2.1 = ByteArray.empty)) && ((!y8) || (decide (y9 = y10)))))))) (Option.bind (i_BlobGet (y4.1.1, y4.1.2) y4.2.1) (fun y11 => Option.bind (i_BlobBend (y4.1.1, y4.1.2) y4.2.1) (fun y12 => Option.bind (i_BlobGet (y12.1.1, y12.1.2) y4.2.1) (fun y13 => Option.bind (i_BlobPut (y12.1.1, y12.1.2) y3.2) (fun y14 => Option.bind (i_BlobGet (y14.1.1, y14.1.2) y4.2.1) (fun y15 => Option.bind (i_BlobDrop (y14.1.1, y14.1.2) y4.2.1) (fun y16 => Option.bind (i_BlobGet (y16.1.1, y16.1.2) y4.2.1) (fun y17 => Option.bind (s_Short y3.2) (fun y18 => gb (((((((((((decide (y4.2.1 = y18)) && (decide (y11.2 = 0))) && (decide (y11.1 = y3.2))) && y12.2) && (decide (y13.2 = 2))) && (decide (y14.2.1 = y4.2.1))) && (decide (y14.2.2 = 0))) && (decide (y15.2 = 0))) && (decide (y15.1 = y3.2))) && y16.2) && (decide (y17.2 = 1))) (s_BlobsOk (y4.1.1, y4.1.2)) (fun y19 => gb ((((((((((((decide (y4.2.1 = y18)) && (decide (y11.2 = 0))) && (decide (y11.1 = y3.2))) && y12.2) && (decide (y13.2 = 2))) && (decide (y14.2.1 = y4.2.1))) && (decide (y14.2.2 = 0))) && (decide (y15.2 = 0))) && (decide (y15.1 = y3.2))) && y16.2) && (decide (y17.2 = 1))) && y19) (i_BlobUsed (y4.1.1, y4.1.2)) (fun y20 => some (((((((((((((decide (y4.2.1 = y18)) && (decide (y11.2 = 0))) && (decide (y11.1 = y3.2))) && y12.2) && (decide (y13.2 = 2))) && (decide (y14.2.1 = y4.2.1))) && (decide (y14.2.2 = 0))) && (decide (y15.2 = 0))) && (decide (y15.1 = y3.2))) && y16.2) && (decide (y17.2 = 1))) && y19) && (decide (y20 ≤ y3.1.1))))))))))))))))))))

theorem w_FnBlobs_walk (w : World) (a0 : TL UInt8) (h0 : GT.rd w [] a0) (hg0 : GT.rd w [] gV0) (r : Bool) (hp : w_FnBlobs (GT.dat a0) = some r) : Spec Tryd.prog 10 [(TL.hdr a0)].toArray w [] (IsV (.bool r)) := by
  refine Spec.intro Tryd.func10 rfl Tryd.ntmps10 rfl ?_
  unfold w_FnBlobs at hp
  try dsimp only [dat_pair, dat_int, dat_bool, dat_str, dat_ar] at hp
  refine W_seq ?_
  refine W_region ?_
  refine L_assign rfl rfl ?_
  refine L_nil ?_
  refine W_seq ?_
  refine W_seq ?_
  refine W_region ?_
  refine L_move rfl rfl ?_
  have ho := hp; clear hp; obtain ⟨y1, hy1, hp⟩ := bind_any ho; clear ho
  refine L_callX rfl fn38 rfl (by exact fun w hw => w_big_walk w a0 (RdT.now (RdT.old h0) hw) _ hy1) ?_
  refine L_nil ?_
  refine W_weaken (l' := [(0, _), (27, _)]) (Sub.cons rfl (Sub.cons rfl (Sub.nil _))) (MSub.refl _) ?_
  refine W_cond rfl (fun hc2 => ?_) (fun hc2 => ?_)
  · skip
    replace hp := cond_t hc2 hp
    refine W_seq ?_
    refine W_region ?_
    refine L_assign rfl rfl ?_
    refine L_nil ?_
    obtain rfl := Option.some.inj hp
    refine W_ret ?_
    refine res1 rfl (ResOK.tmp rfl) ⟨rfl, rfl⟩ (MSub.nil _)
  · skip
    replace hp := cond_f hc2 hp
    refine W_skip ?_
    refine W_seq ?_
    refine W_region ?_
    refine L_move rfl rfl ?_
    have ho := hp; clear hp; obtain ⟨y3, hy3, hp⟩ := bind_any ho; clear ho
    refine L_callR rfl fn39 rfl (by exact fun w hw => s_DrawBlobPut_walk w a0 (RdT.now (RdT.old h0) hw) _ hy3) ?_
    rintro vy3 My3 ⟨y3x0, y3x1, hvy3, hdy3, rfl⟩
    subst hvy3
    subst hdy3
    obtain ⟨y3x0_1, y3x0_2⟩ := y3x0
    simp only [cells_pair, cells_int, cells_bool, cells_str, cells_TL, List.cons_append, List.nil_append]
    try dsimp only [dat_pair, dat_int, dat_bool, dat_str, dat_ar] at hp
    refine L_conv (M' := treeH y3x0_2 :: _) (fun w h => exR (a := y3x0_1) (by first | (with_reducible repeat (first | exact Pick.here _ | apply Pick.there)); done | (repeat (first | exact Pick.here _ | apply Pick.there))) h) ?_
    refine L_move rfl rfl ?_
    refine L_extract rfl rfl rfl ?_
    refine L_extract rfl rfl rfl ?_
    refine L_alloc rfl zero30 (fun bk3 => ?_)
    refine L_storeW rfl rfl (by first | (with_reducible repeat (first | exact Pick.here _ | apply Pick.there)); done | (repeat (first | exact Pick.here _ | apply Pick.there))) (by exact agg30) (by rfl) (by first | exact allOne rfl | exact fun v hv => GT.one _ v hv | (simp [Value.oneCell', TL.hdr, Value.cells]; done)) ?_
    refine L_assign rfl rfl ?_
    refine L_nil ?_
    refine W_seq ?_
    refine W_region ?_
    refine L_loadW rfl rfl (RdC.blk (by first | (with_reducible repeat (first | exact List.Mem.head _ | apply List.Mem.tail)); done | (repeat (first | exact List.Mem.head _ | apply List.Mem.tail)))) (by exact agg30) ?_
    refine L_move rfl rfl ?_
    have ho := hp; clear hp; obtain ⟨y4, hy4, hp⟩ := bind_any ho; clear ho
    refine L_callR rfl fn30 rfl (by exact fun w hw => i_BlobPut_walk w (y3x0_1, y3x0_2) y3x1 (RdT.now (RdT.pair RdT.int (RdT.tree (by first | (with_reducible repeat (first | exact List.Mem.head _ | apply List.Mem.tail)); done | (repeat (first | exact List.Mem.head _ | apply List.Mem.tail))))) hw) (RdT.now (RdT.old hg0) hw) _ hy4) ?_
    rintro vy4 My4 ⟨y4x0, y4x1, y4x2, hvy4, hdy4, rfl⟩
    subst hvy4
    subst hdy4
    obtain ⟨y4x0_1, y4x0_2⟩ := y4x0
    simp only [cells_pair, cells_int, cells_bool, cells_str, cells_TL, List.cons_append, List.nil_append]
    try dsimp only [dat_pair, dat_int, dat_bool, dat_str, dat_ar] at hp
    refine L_conv (M' := treeH y4x0_2 :: _) (fun w h => exR (a := y4x0_1) (by first | (with_reducible repeat (first | exact Pick.here _ | apply Pick.there)); done | (repeat (first | exact Pick.here _ | apply Pick.there))) h) ?_
    refine L_move rfl rfl ?_
    refine L_extract rfl rfl rfl ?_
    refine L_extract rfl rfl rfl ?_
    refine L_extract rfl rfl rfl ?_
    refine L_alloc rfl zero30 (fun bk5 => ?_)
    refine L_storeW rfl rfl (by first | (with_reducible repeat (first | exact Pick.here _ | apply Pick.there)); done | (repeat (first | exact Pick.here _ | apply Pick.there))) (by exact agg30) (by rfl) (by first | exact allOne rfl | exact fun v hv => GT.one _ v hv | (simp [Value.oneCell', TL.hdr, Value.cells]; done)) ?_
    refine L_assign rfl rfl ?_
    refine L_assign rfl rfl ?_
    refine L_nil ?_
    refine W_seq ?_
    refine W_region ?_
    refine L_loadW rfl rfl (RdC.blk (by first | (with_reducible repeat (first | exact List.Mem.head _ | apply List.Mem.tail)); done | (repeat (first | exact List.Mem.head _ | apply List.Mem.tail)))) (by exact agg30) ?_
    refine L_move rfl rfl ?_
    have ho := hp; clear hp; obtain ⟨y5, hy5, hp⟩ := bind_any ho; clear ho
    refine L_callR rfl fn29 rfl (by exact fun w hw => s_BlobPut_walk w (y3x0_1, y3x0_2) y3x1 (RdT.now (RdT.pair RdT.int (RdT.tree (by first | (with_reducible repeat (first | exact List.Mem.head _ | apply List.Mem.tail)); done | (repeat (first | exact List.Mem.head _ | apply List.Mem.tail))))) hw) _ hy5) ?_
    rintro vy5 My5 ⟨y5x0, y5x1, y5x2, hvy5, hdy5, rfl⟩
    subst hvy5
    subst hdy5
    obtain ⟨y5x0_1, y5x0_2⟩ := y5x0
    simp only [cells_pair, cells_int, cells_bool, cells_str, cells_TL, List.cons_append, List.nil_append]
    try dsimp only [dat_pair, dat_int, dat_bool, dat_str, dat_ar] at hp
    refine L_conv (M' := treeH y5x0_2 :: _) (fun w h => exR (a := y5x0_1) (by first | (with_reducible repeat (first | exact Pick.here _ | apply Pick.there)); done | (repeat (first | exact Pick.here _ | apply Pick.there))) h) ?_
    refine L_move rfl rfl ?_
    refine L_extract rfl rfl rfl ?_
    refine L_extract rfl rfl rfl ?_
    refine L_extract rfl rfl rfl ?_
    refine L_alloc rfl zero30 (fun bk8 => ?_)
    refine L_storeW rfl rfl (by first | (with_reducible repeat (first | exact Pick.here _ | apply Pick.there)); done | (repeat (first | exact Pick.here _ | apply Pick.there))) (by exact agg30) (by rfl) (by first | exact allOne rfl | exact fun v hv => GT.one _ v hv | (simp [Value.oneCell', TL.hdr, Value.cells]; done)) ?_
    refine L_assign rfl rfl ?_
    refine L_assign rfl rfl ?_
    refine L_nil ?_
    refine W_seq ?_
    refine W_seq ?_
    refine W_D0 [54] mix (by kernel_rfl) rfl ?_
    refine D_move GC.none (OpV.t rfl) ?_
    refine D_move GC.none (OpV.t rfl) ?_
    refine D_bin GC.none (OpV.t rfl) (OpV.t rfl) (fun hg => bv_neq) ?_
    refine D_move GC.none (OpV.t rfl) ?_
    refine D_move (GC.some rfl rfl) (OpV.t rfl) ?_
    refine D_move (GC.some rfl rfl) (OpV.t rfl) ?_
    refine D_bin (GC.some rfl rfl) (OpV.s rfl) (OpV.s rfl) (fun hg => bv_sneq) ?_
    refine D_or (cy := _) GC.none (OpV.t rfl) (OpV.s rfl) (fun h hb => ⟨h, hb⟩) ?_
    refine DV_nil ?_
    refine Give_is rfl rfl ?_
    refine Give_drop rfl ?_
    refine Give_drop rfl ?_
    refine Give_drop rfl ?_
    refine Give_drop rfl ?_
    refine Give_drop rfl ?_
    refine Give_drop rfl ?_
    refine Give_drop rfl ?_
    refine Give_nil ?_
    refine W_weaken (l' := [(3, _), (4, _), (5, _), (6, _), (7, _), (54, _)]) (Sub.cons rfl (Sub.cons rfl (Sub.cons rfl (Sub.cons rfl (Sub.cons rfl (Sub.cons rfl (Sub.nil _))))))) (MSub.refl _) ?_
    refine W_cond rfl (fun hc6 => ?_) (fun hc6 => ?_)
    · skip
      replace hp := cond_t hc6 hp
      refine W_seq ?_
      refine W_region ?_
      refine L_assign rfl rfl ?_
      refine L_nil ?_
      obtain rfl := Option.some.inj hp
      refine W_ret ?_
      refine res1 rfl (ResOK.tmp rfl) ⟨rfl, rfl⟩ (MSub.nil _)
    · skip
      replace hp := cond_f hc6 hp
      refine W_skip ?_
      refine W_seq ?_
      refine W_seq ?_
      refine W_region ?_
      refine L_move rfl rfl ?_
      refine L_binV rfl rfl rfl bv_neq ?_
      refine L_nil ?_
      refine W_weaken (l' := [(3, _), (4, _), (5, _), (6, _), (56, _)]) (Sub.cons rfl (Sub.cons rfl (Sub.cons rfl (Sub.cons rfl (Sub.cons rfl (Sub.nil _)))))) (MSub.refl _) ?_
      refine W_cond rfl (fun hc7 => ?_) (fun hc7 => ?_)
      · skip
        replace hp := cond_t hc7 hp
        refine W_seq ?_
        have ho := hp; clear hp; obtain ⟨y8, hy8, hp⟩ := gb_any ho; clear ho
        have ho := hp; clear hp; obtain ⟨y9, hy9, hp⟩ := gb_any ho; clear ho
        have ho := hp; clear hp; obtain ⟨y10, hy10, hp⟩ := gb_any ho; clear ho
        refine W_D0 [2] mix (by kernel_rfl) rfl ?_
        refine D_move GC.none (OpV.t rfl) ?_
        refine D_bin GC.none (OpV.t rfl) OpV.c (fun hg => bv_seql) ?_
        refine D_move GC.none (OpV.t rfl) ?_
        refine D_loadW (GC.some rfl rfl) (OpV.t rfl) (fun hg => RdC.blk (by first | (with_reducible repeat (first | exact List.Mem.head _ | apply List.Mem.tail)); done | (repeat (first | exact List.Mem.head _ | apply List.Mem.tail)))) (by exact agg30) ?_
        refine D_callX (GC.some rfl rfl) fn40 (OpVs.cons (OpV.s rfl) (OpVs.nil)) (by exact fun hg w F hF hM => s_BlobsOk_walk w (y3x0_1, y3x0_2) (RdT.nowS (RdT.pair RdT.int (RdT.tree (by first | (with_reducible repeat (first | exact List.Mem.head _ | apply List.Mem.tail)); done | (repeat (first | exact List.Mem.head _ | apply List.Mem.tail))))) hF hM) _ (hy8 hg.2)) ?_
        refine D_not (GC.some rfl rfl) (OpV.s rfl) ?_
        refine D_move (GC.some rfl rfl) (OpV.s rfl) ?_
        refine D_loadW (GC.some rfl rfl) (OpV.t rfl) (fun hg => RdC.blk (by first | (with_reducible repeat (first | exact List.Mem.head _ | apply List.Mem.tail)); done | (repeat (first | exact List.Mem.head _ | apply List.Mem.tail)))) (by exact agg30) ?_
        refine D_callX (GC.some rfl rfl) fn41 (OpVs.cons (OpV.s rfl) (OpVs.nil)) (by exact fun hg w F hF hM => i_BlobUsed_walk w (y4x0_1, y4x0_2) (RdT.nowS (RdT.pair RdT.int (RdT.tree (by first | (with_reducible repeat (first | exact List.Mem.head _ | apply List.Mem.tail)); done | (repeat (first | exact List.Mem.head _ | apply List.Mem.tail))))) hF hM) (RdT.nowS (RdT.old hg0) hF hM) _ (hy9 (gand hg.1.2 (gnot hg.2)))) ?_
        refine D_loadW (GC.some rfl rfl) (OpV.t rfl) (fun hg => RdC.blk (by first | (with_reducible repeat (first | exact List.Mem.head _ | apply List.Mem.tail)); done | (repeat (first | exact List.Mem.head _ | apply List.Mem.tail)))) (by exact agg30) ?_
        refine D_callX (GC.some rfl rfl) fn41 (OpVs.cons (OpV.s rfl) (OpVs.nil)) (by exact fun hg w F hF hM => i_BlobUsed_walk w (y3x0_1, y3x0_2) (RdT.nowS (RdT.pair RdT.int (RdT.tree (by first | (with_reducible repeat (first | exact List.Mem.head _ | apply List.Mem.tail)); done | (repeat (first | exact List.Mem.head _ | apply List.Mem.tail))))) hF hM) (RdT.nowS (RdT.old hg0) hF hM) _ (hy10 (gand hg.1.2 (gnot hg.2)))) ?_
        refine D_bin (GC.some rfl rfl) (OpV.s rfl) (OpV.s rfl) (fun hg => bv_eql) ?_
        refine D_or (cy := _) (GC.some rfl rfl) (OpV.s rfl) (OpV.s rfl) (fun h hb => ⟨h, hb⟩) ?_
        refine D_and (cy := _) GC.none (OpV.t rfl) (OpV.s rfl) (fun h hb => ⟨h, hb⟩) ?_
        refine D_assign GC.none (OpV.t rfl) ?_
        refine DV_nil ?_
        refine Give_is rfl rfl ?_
        refine Give_drop rfl ?_
        refine Give_drop rfl ?_
        refine Give_drop rfl ?_
        refine Give_drop rfl ?_
        refine Give_drop rfl ?_
        refine Give_drop rfl ?_
        refine Give_drop rfl ?_
        refine Give_drop rfl ?_
        refine Give_drop rfl ?_
        refine Give_drop rfl ?_
        refine Give_drop rfl ?_
        refine Give_drop rfl ?_
        refine Give_drop rfl ?_
        refine Give_drop rfl ?_
        refine Give_nil ?_
        obtain rfl := Option.some.inj hp
        refine W_ret ?_
        refine res1 rfl (ResOK.tmp rfl) ⟨rfl, rfl⟩ (MSub.nil _)
      · skip
        replace hp := cond_f hc7 hp
        refine W_skip ?_
        refine W_seq ?_
        refine W_region ?_
        refine L_loadW rfl rfl (RdC.blk (by first | (with_reducible repeat (first | exact List.Mem.head _ | apply List.Mem.tail)); done | (repeat (first | exact List.Mem.head _ | apply List.Mem.tail)))) (by exact agg30) ?_
        refine L_move rfl rfl ?_
        have ho := hp; clear hp; obtain ⟨y11, hy11, hp⟩ := bind_any ho; clear ho
        refine L_callR rfl fn16 rfl (by exact fun w hw => i_BlobGet_walk w (y4x0_1, y4x0_2) y4x1 (RdT.now (RdT.pair RdT.int (RdT.tree (by first | (with_reducible repeat (first | exact List.Mem.head _ | apply List.Mem.tail)); done | (repeat (first | exact List.Mem.head _ | apply List.Mem.tail))))) hw) (RdT.now (RdT.old hg0) hw) _ hy11) ?_
        rintro vy11 My11 ⟨y11x0, y11x1, hvy11, hdy11, rfl⟩
        subst hvy11
        subst hdy11
        simp only [cells_pair, cells_int, cells_bool, cells_str, cells_TL, List.cons_append, List.nil_append]
        try dsimp only [dat_pair, dat_int, dat_bool, dat_str, dat_ar] at hp
        refine L_move rfl rfl ?_
        refine L_extract rfl rfl rfl ?_
        refine L_extract rfl rfl rfl ?_
        refine L_assign rfl rfl ?_
        refine L_assign rfl rfl ?_
        refine L_nil ?_
        refine W_seq ?_
        refine W_region ?_
        refine L_loadW rfl rfl (RdC.blk (by first | (with_reducible repeat (first | exact List.Mem.head _ | apply List.Mem.tail)); done | (repeat (first | exact List.Mem.head _ | apply List.Mem.tail)))) (by exact agg30) ?_
        refine L_move rfl rfl ?_
        have ho := hp; clear hp; obtain ⟨y12, hy12, hp⟩ := bind_any ho; clear ho
        refine L_callR rfl fn23 rfl (by exact fun w hw => i_BlobBend_walk w (y4x0_1, y4x0_2) y4x1 (RdT.now (RdT.pair RdT.int (RdT.tree (by first | (with_reducible repeat (first | exact List.Mem.head _ | apply List.Mem.tail)); done | (repeat (first | exact List.Mem.head _ | apply List.Mem.tail))))) hw) (RdT.now (RdT.old hg0) hw) _ hy12) ?_
        rintro vy12 My12 ⟨y12x0, y12x1, hvy12, hdy12, rfl⟩
        subst hvy12
        subst hdy12
        obtain ⟨y12x0_1, y12x0_2⟩ := y12x0
        simp only [cells_pair, cells_int, cells_bool, cells_str, cells_TL, List.cons_append, List.nil_append]
        try dsimp only [dat_pair, dat_int, dat_bool, dat_str, dat_ar] at hp
        refine L_conv (M' := treeH y12x0_2 :: _) (fun w h => exR (a := y12x0_1) (by first | (with_reducible repeat (first | exact Pick.here _ | apply Pick.there)); done | (repeat (first | exact Pick.here _ | apply Pick.there))) h) ?_
        refine L_move rfl rfl ?_
        refine L_extract rfl rfl rfl ?_
        refine L_extract rfl rfl rfl ?_
        refine L_alloc rfl zero30 (fun bk13 => ?_)
        refine L_storeW rfl rfl (by first | (with_reducible repeat (first | exact Pick.here _ | apply Pick.there)); done | (repeat (first | exact Pick.here _ | apply Pick.there))) (by exact agg30) (by rfl) (by first | exact allOne rfl | exact fun v hv => GT.one _ v hv | (simp [Value.oneCell', TL.hdr, Value.cells]; done)) ?_
        refine L_assign rfl rfl ?_
        refine L_nil ?_
        refine W_seq ?_
        refine W_region ?_
        refine L_loadW rfl rfl (RdC.blk (by first | (with_reducible repeat (first | exact List.Mem.head _ | apply List.Mem.tail)); done | (repeat (first | exact List.Mem.head _ | apply List.Mem.tail)))) (by exact agg30) ?_
        refine L_move rfl rfl ?_
        have ho := hp; clear hp; obtain ⟨y13, hy13, hp⟩ := bind_any ho; clear ho
        refine L_callR rfl fn16 rfl (by exact fun w hw => i_BlobGet_walk w (y12x0_1, y12x0_2) y4x1 (RdT.now (RdT.pair RdT.int (RdT.tree (by first | (with_reducible repeat (first | exact List.Mem.head _ | apply List.Mem.tail)); done | (repeat (first | exact List.Mem.head _ | apply List.Mem.tail))))) hw) (RdT.now (RdT.old hg0) hw) _ hy13) ?_
        rintro vy13 My13 ⟨y13x0, y13x1, hvy13, hdy13, rfl⟩
        subst hvy13
        subst hdy13
        simp only [cells_pair, cells_int, cells_bool, cells_str, cells_TL, List.cons_append, List.nil_append]
        try dsimp only [dat_pair, dat_int, dat_bool, dat_str, dat_ar] at hp
        refine L_move rfl rfl ?_
        refine L_extract rfl rfl rfl ?_
        refine L_extract rfl rfl rfl ?_
        refine L_assign rfl rfl ?_
        refine L_assign rfl rfl ?_
        refine L_nil ?_
        refine W_seq ?_
        refine W_region ?_
        refine L_loadW rfl rfl (RdC.blk (by first | (with_reducible repeat (first | exact List.Mem.head _ | apply List.Mem.tail)); done | (repeat (first | exact List.Mem.head _ | apply List.Mem.tail)))) (by exact agg30) ?_
        refine L_move rfl rfl ?_
        have ho := hp; clear hp; obtain ⟨y14, hy14, hp⟩ := bind_any ho; clear ho
        refine L_callR rfl fn30 rfl (by exact fun w hw => i_BlobPut_walk w (y12x0_1, y12x0_2) y3x1 (RdT.now (RdT.pair RdT.int (RdT.tree (by first | (with_reducible repeat (first | exact List.Mem.head _ | apply List.Mem.tail)); done | (repeat (first | exact List.Mem.head _ | apply List.Mem.tail))))) hw) (RdT.now (RdT.old hg0) hw) _ hy14) ?_
        rintro vy14 My14 ⟨y14x0, y14x1, y14x2, hvy14, hdy14, rfl⟩
        subst hvy14
        subst hdy14
        obtain ⟨y14x0_1, y14x0_2⟩ := y14x0
        simp only [cells_pair, cells_int, cells_bool, cells_str, cells_TL, List.cons_append, List.nil_append]
        try dsimp only [dat_pair, dat_int, dat_bool, dat_str, dat_ar] at hp
        refine L_conv (M' := treeH y14x0_2 :: _) (fun w h => exR (a := y14x0_1) (by first | (with_reducible repeat (first | exact Pick.here _ | apply Pick.there)); done | (repeat (first | exact Pick.here _ | apply Pick.there))) h) ?_
        refine L_move rfl rfl ?_
        refine L_extract rfl rfl rfl ?_
        refine L_extract rfl rfl rfl ?_
        refine L_extract rfl rfl rfl ?_
        refine L_alloc rfl zero30 (fun bk17 => ?_)
        refine L_storeW rfl rfl (by first | (with_reducible repeat (first | exact Pick.here _ | apply Pick.there)); done | (repeat (first | exact Pick.here _ | apply Pick.there))) (by exact agg30) (by rfl) (by first | exact allOne rfl | exact fun v hv => GT.one _ v hv | (simp [Value.oneCell', TL.hdr, Value.cells]; done)) ?_
        refine L_assign rfl rfl ?_
        refine L_assign rfl rfl ?_
        refine L_nil ?_
        refine W_seq ?_
        refine W_region ?_
        refine L_loadW rfl rfl (RdC.blk (by first | (with_reducible repeat (first | exact List.Mem.head _ | apply List.Mem.tail)); done | (repeat (first | exact List.Mem.head _ | apply List.Mem.tail)))) (by exact agg30) ?_
        refine L_move rfl rfl ?_
        have ho := hp; clear hp; obtain ⟨y15, hy15, hp⟩ := bind_any ho; clear ho
        refine L_callR rfl fn16 rfl (by exact fun w hw => i_BlobGet_walk w (y14x0_1, y14x0_2) y4x1 (RdT.now (RdT.pair RdT.int (RdT.tree (by first | (with_reducible repeat (first | exact List.Mem.head _ | apply List.Mem.tail)); done | (repeat (first | exact List.Mem.head _ | apply List.Mem.tail))))) hw) (RdT.now (RdT.old hg0) hw) _ hy15) ?_
        rintro vy15 My15 ⟨y15x0, y15x1, hvy15, hdy15, rfl⟩
        subst hvy15
        subst hdy15
        simp only [cells_pair, cells_int, cells_bool, cells_str, cells_TL, List.cons_append, List.nil_append]
        try dsimp only [dat_pair, dat_int, dat_bool, dat_str, dat_ar] at hp
        refine L_move rfl rfl ?_
        refine L_extract rfl rfl rfl ?_
        refine L_extract rfl rfl rfl ?_
        refine L_assign rfl rfl ?_
        refine L_assign rfl rfl ?_
        refine L_nil ?_
        refine W_seq ?_
        refine W_region ?_
        refine L_loadW rfl rfl (RdC.blk (by first | (with_reducible repeat (first | exact List.Mem.head _ | apply List.Mem.tail)); done | (repeat (first | exact List.Mem.head _ | apply List.Mem.tail)))) (by exact agg30) ?_
        refine L_move rfl rfl ?_
        have ho := hp; clear hp; obtain ⟨y16, hy16, hp⟩ := bind_any ho; clear ho
        refine L_callR rfl fn19 rfl (by exact fun w hw => i_BlobDrop_walk w (y14x0_1, y14x0_2) y4x1 (RdT.now (RdT.pair RdT.int (RdT.tree (by first | (with_reducible repeat (first | exact List.Mem.head _ | apply List.Mem.tail)); done | (repeat (first | exact List.Mem.head _ | apply List.Mem.tail))))) hw) (RdT.now (RdT.old hg0) hw) _ hy16) ?_
        rintro vy16 My16 ⟨y16x0, y16x1, hvy16, hdy16, rfl⟩
        subst hvy16
        subst hdy16
        obtain ⟨y16x0_1, y16x0_2⟩ := y16x0
        simp only [cells_pair, cells_int, cells_bool, cells_str, cells_TL, List.cons_append, List.nil_append]
        try dsimp only [dat_pair, dat_int, dat_bool, dat_str, dat_ar] at hp
        refine L_conv (M' := treeH y16x0_2 :: _) (fun w h => exR (a := y16x0_1) (by first | (with_reducible repeat (first | exact Pick.here _ | apply Pick.there)); done | (repeat (first | exact Pick.here _ | apply Pick.there))) h) ?_
        refine L_move rfl rfl ?_
        refine L_extract rfl rfl rfl ?_
        refine L_extract rfl rfl rfl ?_
        refine L_alloc rfl zero30 (fun bk22 => ?_)
        refine L_storeW rfl rfl (by first | (with_reducible repeat (first | exact Pick.here _ | apply Pick.there)); done | (repeat (first | exact Pick.here _ | apply Pick.there))) (by exact agg30) (by rfl) (by first | exact allOne rfl | exact fun v hv => GT.one _ v hv | (simp [Value.oneCell', TL.hdr, Value.cells]; done)) ?_
        refine L_assign rfl rfl ?_
        refine L_nil ?_
        refine W_seq ?_
        refine W_region ?_
        refine L_loadW rfl rfl (RdC.blk (by first | (with_reducible repeat (first | exact List.Mem.head _ | apply List.Mem.tail)); done | (repeat (first | exact List.Mem.head _ | apply List.Mem.tail)))) (by exact agg30) ?_
        refine L_move rfl rfl ?_
        have ho := hp; clear hp; obtain ⟨y17, hy17, hp⟩ := bind_any ho; clear ho
        refine L_callR rfl fn16 rfl (by exact fun w hw => i_BlobGet_walk w (y16x0_1, y16x0_2) y4x1 (RdT.now (RdT.pair RdT.int (RdT.tree (by first | (with_reducible repeat (first | exact List.Mem.head _ | apply List.Mem.tail)); done | (repeat (first | exact List.Mem.head _ | apply List.Mem.tail))))) hw) (RdT.now (RdT.old hg0) hw) _ hy17) ?_
        rintro vy17 My17 ⟨y17x0, y17x1, hvy17, hdy17, rfl⟩
        subst hvy17
        subst hdy17
        simp only [cells_pair, cells_int, cells_bool, cells_str, cells_TL, List.cons_append, List.nil_append]
        try dsimp only [dat_pair, dat_int, dat_bool, dat_str, dat_ar] at hp
        refine L_move rfl rfl ?_
        refine L_extract rfl rfl rfl ?_
        refine L_extract rfl rfl rfl ?_
        refine L_assign rfl rfl ?_
        refine L_assign rfl rfl ?_
        refine L_nil ?_
        refine W_seq ?_
        have ho := hp; clear hp; obtain ⟨y18, hy18, hp⟩ := bind_any ho; clear ho
        have ho := hp; clear hp; obtain ⟨y19, hy19, hp⟩ := gb_any ho; clear ho
        have ho := hp; clear hp; obtain ⟨y20, hy20, hp⟩ := gb_any ho; clear ho
        refine W_D0 [2] mix (by kernel_rfl) rfl ?_
        refine D_move GC.none (OpV.t rfl) ?_
        refine D_move GC.none (OpV.t rfl) ?_
        refine D_callX GC.none fn42 (OpVs.cons (OpV.t rfl) (OpVs.nil)) (by exact fun hg w F hF hM => s_Short_walk w y3x1  _ hy18) ?_
        refine D_bin GC.none (OpV.t rfl) (OpV.t rfl) (fun hg => bv_seql) ?_
        refine D_move GC.none (OpV.t rfl) ?_
        refine D_move (GC.some rfl rfl) (OpV.t rfl) ?_
        refine D_bin (GC.some rfl rfl) (OpV.s rfl) OpV.c (fun hg => bv_eql) ?_
        refine D_and (cy := _) GC.none (OpV.t rfl) (OpV.s rfl) (fun h hb => ⟨h, hb⟩) ?_
        refine D_move GC.none (OpV.t rfl) ?_
        refine D_move (GC.some rfl rfl) (OpV.t rfl) ?_
        refine D_move (GC.some rfl rfl) (OpV.t rfl) ?_
        refine D_bin (GC.some rfl rfl) (OpV.s rfl) (OpV.s rfl) (fun hg => bv_seql) ?_
        refine D_and (cy := _) GC.none (OpV.t rfl) (OpV.s rfl) (fun h hb => ⟨h, hb⟩) ?_
        refine D_move GC.none (OpV.t rfl) ?_
        refine D_move (GC.some rfl rfl) (OpV.t rfl) ?_
        refine D_and (cy := _) GC.none (OpV.t rfl) (OpV.s rfl) (fun h hb => ⟨h, hb⟩) ?_
        refine D_move GC.none (OpV.t rfl) ?_
        refine D_move (GC.some rfl rfl) (OpV.t rfl) ?_
        refine D_bin (GC.some rfl rfl) (OpV.s rfl) OpV.c (fun hg => bv_eql) ?_
        refine D_and (cy := _) GC.none (OpV.t rfl) (OpV.s rfl) (fun h hb => ⟨h, hb⟩) ?_
        refine D_move GC.none (OpV.t rfl) ?_
        refine D_move (GC.some rfl rfl) (OpV.t rfl) ?_
        refine D_move (GC.some rfl rfl) (OpV.t rfl) ?_
        refine D_bin (GC.some rfl rfl) (OpV.s rfl) (OpV.s rfl) (fun hg => bv_seql) ?_
        refine D_and (cy := _) GC.none (OpV.t rfl) (OpV.s rfl) (fun h hb => ⟨h, hb⟩) ?_
        refine D_move GC.none (OpV.t rfl) ?_
        refine D_move (GC.some rfl rfl) (OpV.t rfl) ?_
        refine D_bin (GC.some rfl rfl) (OpV.s rfl) OpV.c (fun hg => bv_eql) ?_
        refine D_and (cy := _) GC.none (OpV.t rfl) (OpV.s rfl) (fun h hb => ⟨h, hb⟩) ?_
        refine D_move GC.none (OpV.t rfl) ?_
        refine D_move (GC.some rfl rfl) (OpV.t rfl) ?_
        refine D_bin (GC.some rfl rfl) (OpV.s rfl) OpV.c (fun hg => bv_eql) ?_
        refine D_and (cy := _) GC.none (OpV.t rfl) (OpV.s rfl) (fun h hb => ⟨h, hb⟩) ?_
        refine D_move GC.none (OpV.t rfl) ?_
        refine D_move (GC.some rfl rfl) (OpV.t rfl) ?_
        refine D_move (GC.some rfl rfl) (OpV.t rfl) ?_
        refine D_bin (GC.some rfl rfl) (OpV.s rfl) (OpV.s rfl) (fun hg => bv_seql) ?_
        refine D_and (cy := _) GC.none (OpV.t rfl) (OpV.s rfl) (fun h hb => ⟨h, hb⟩) ?_
        refine D_move GC.none (OpV.t rfl) ?_
        refine D_move (GC.some rfl rfl) (OpV.t rfl) ?_
        refine D_and (cy := _) GC.none (OpV.t rfl) (OpV.s rfl) (fun h hb => ⟨h, hb⟩) ?_
        refine D_move GC.none (OpV.t rfl) ?_
        refine D_move (GC.some rfl rfl) (OpV.t rfl) ?_
        refine D_bin (GC.some rfl rfl) (OpV.s rfl) OpV.c (fun hg => bv_eql) ?_
        refine D_and (cy := _) GC.none (OpV.t rfl) (OpV.s rfl) (fun h hb => ⟨h, hb⟩) ?_
        refine D_move GC.none (OpV.t rfl) ?_
        refine D_loadW (GC.some rfl rfl) (OpV.t rfl) (fun hg => RdC.blk (by first | (with_reducible repeat (first | exact List.Mem.head _ | apply List.Mem.tail)); done | (repeat (first | exact List.Mem.head _ | apply List.Mem.tail)))) (by exact agg30) ?_
        refine D_callX (GC.some rfl rfl) fn40 (OpVs.cons (OpV.s rfl) (OpVs.nil)) (by exact fun hg w F hF hM => s_BlobsOk_walk w (y4x0_1, y4x0_2) (RdT.nowS (RdT.pair RdT.int (RdT.tree (by first | (with_reducible repeat (first | exact List.Mem.head _ | apply List.Mem.tail)); done | (repeat (first | exact List.Mem.head _ | apply List.Mem.tail))))) hF hM) _ (hy19 hg.2)) ?_
        refine D_and (cy := _) GC.none (OpV.t rfl) (OpV.s rfl) (fun h hb => ⟨h, hb⟩) ?_
        refine D_move GC.none (OpV.t rfl) ?_
        refine D_loadW (GC.some rfl rfl) (OpV.t rfl) (fun hg => RdC.blk (by first | (with_reducible repeat (first | exact List.Mem.head _ | apply List.Mem.tail)); done | (repeat (first | exact List.Mem.head _ | apply List.Mem.tail)))) (by exact agg30) ?_
        refine D_callX (GC.some rfl rfl) fn41 (OpVs.cons (OpV.s rfl) (OpVs.nil)) (by exact fun hg w F hF hM => i_BlobUsed_walk w (y4x0_1, y4x0_2) (RdT.nowS (RdT.pair RdT.int (RdT.tree (by first | (with_reducible repeat (first | exact List.Mem.head _ | apply List.Mem.tail)); done | (repeat (first | exact List.Mem.head _ | apply List.Mem.tail))))) hF hM) (RdT.nowS (RdT.old hg0) hF hM) _ (hy20 hg.2)) ?_
        refine D_fieldAddr (GC.some rfl rfl) (OpV.t rfl) fld30_0 ?_
        refine D_load (GC.some rfl rfl) (OpV.s rfl) (fun hg => RdC.blk (by first | (with_reducible repeat (first | exact List.Mem.head _ | apply List.Mem.tail)); done | (repeat (first | exact List.Mem.head _ | apply List.Mem.tail)))) one3 rfl ?_
        refine D_bin (GC.some rfl rfl) (OpV.s rfl) (OpV.s rfl) (fun hg => bv_leq) ?_
        refine D_and (cy := _) GC.none (OpV.t rfl) (OpV.s rfl) (fun h hb => ⟨h, hb⟩) ?_
        refine D_assign GC.none (OpV.t rfl) ?_
        refine DV_nil ?_
        refine Give_is rfl rfl ?_
        refine Give_drop rfl ?_
        refine Give_drop rfl ?_
        refine Give_drop rfl ?_
        refine Give_drop rfl ?_
        refine Give_drop rfl ?_
        refine Give_drop rfl ?_
        refine Give_drop rfl ?_
        refine Give_drop rfl ?_
        refine Give_drop rfl ?_
        refine Give_drop rfl ?_
        refine Give_drop rfl ?_
        refine Give_drop rfl ?_
        refine Give_drop rfl ?_
        refine Give_drop rfl ?_
        refine Give_drop rfl ?_
        refine Give_drop rfl ?_
        refine Give_drop rfl ?_
        refine Give_drop rfl ?_
        refine Give_drop rfl ?_
        refine Give_drop rfl ?_
        refine Give_drop rfl ?_
        refine Give_drop rfl ?_
        refine Give_drop rfl ?_
        refine Give_drop rfl ?_
        refine Give_drop rfl ?_
        refine Give_drop rfl ?_
        refine Give_drop rfl ?_
        refine Give_drop rfl ?_
        refine Give_drop rfl ?_
        refine Give_drop rfl ?_
        refine Give_drop rfl ?_
        refine Give_drop rfl ?_
        refine Give_drop rfl ?_
        refine Give_drop rfl ?_
        refine Give_drop rfl ?_
        refine Give_drop rfl ?_
        refine Give_drop rfl ?_
        refine Give_drop rfl ?_
        refine Give_drop rfl ?_
        refine Give_drop rfl ?_
        refine Give_drop rfl ?_
        refine Give_drop rfl ?_
        refine Give_drop rfl ?_
        refine Give_drop rfl ?_
        refine Give_drop rfl ?_
        refine Give_drop rfl ?_
        refine Give_drop rfl ?_
        refine Give_drop rfl ?_
        refine Give_drop rfl ?_
        refine Give_drop rfl ?_
        refine Give_drop rfl ?_
        refine Give_drop rfl ?_
        refine Give_drop rfl ?_
        refine Give_drop rfl ?_
        refine Give_drop rfl ?_
        refine Give_drop rfl ?_
        refine Give_nil ?_
        obtain rfl := Option.some.inj hp
        refine W_ret ?_
        refine res1 rfl (ResOK.tmp rfl) ⟨rfl, rfl⟩ (MSub.nil _)

end Go.Proofs.SL
