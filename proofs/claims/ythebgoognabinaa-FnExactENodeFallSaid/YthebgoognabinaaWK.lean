/- Walks of functions, each with the function on data that it follows. -/
import Derived.Test.YthebgoognabinaaWI
namespace Go.Proofs.SL
open Go
abbrev D_Lead := D_Id × Int × Int × Int × (List D_Id) × (List Int) × Bool
abbrev D_ENode := Int × Int × (List D_Inst) × (List D_Lead)
theorem fn316 : IsFn Try.prog 316 := ⟨_, Try.func316, by kernel_rfl, rfl⟩
theorem fn271 : IsFn Try.prog 271 := ⟨_, Try.func271, by kernel_rfl, rfl⟩
theorem fn193 : IsFn Try.prog 193 := ⟨_, Try.func193, by kernel_rfl, rfl⟩
theorem fn320 : IsFn Try.prog 320 := ⟨_, Try.func320, by kernel_rfl, rfl⟩
theorem fn233 : IsFn Try.prog 233 := ⟨_, Try.func233, by kernel_rfl, rfl⟩
theorem fn281 : IsFn Try.prog 281 := ⟨_, Try.func281, by kernel_rfl, rfl⟩
theorem fn107 : IsFn Try.prog 107 := ⟨_, Try.func107, by kernel_rfl, rfl⟩
theorem fn222 : IsFn Try.prog 222 := ⟨_, Try.func222, by kernel_rfl, rfl⟩
theorem fn223 : IsFn Try.prog 223 := ⟨_, Try.func223, by kernel_rfl, rfl⟩
theorem fn224 : IsFn Try.prog 224 := ⟨_, Try.func224, by kernel_rfl, rfl⟩
theorem fn225 : IsFn Try.prog 225 := ⟨_, Try.func225, by kernel_rfl, rfl⟩
theorem bld117 : bldOf Try.prog 117 = some ([(0, 1), (1, 1), (2, 1), (3, 1)], [.int .i64 0, .int .i64 0, .slice none 0 0, .slice none 0 0]) := by kernel_rfl
theorem fn162 : IsFn Try.prog 162 := ⟨_, Try.func162, by kernel_rfl, rfl⟩
theorem fn163 : IsFn Try.prog 163 := ⟨_, Try.func163, by kernel_rfl, rfl⟩
theorem fn113 : IsFn Try.prog 113 := ⟨_, Try.func113, by kernel_rfl, rfl⟩
theorem fn278 : IsFn Try.prog 278 := ⟨_, Try.func278, by kernel_rfl, rfl⟩
theorem fn280 : IsFn Try.prog 280 := ⟨_, Try.func280, by kernel_rfl, rfl⟩
theorem fn279 : IsFn Try.prog 279 := ⟨_, Try.func279, by kernel_rfl, rfl⟩
theorem fn228 : IsFn Try.prog 228 := ⟨_, Try.func228, by kernel_rfl, rfl⟩
theorem fn229 : IsFn Try.prog 229 := ⟨_, Try.func229, by kernel_rfl, rfl⟩
theorem fn230 : IsFn Try.prog 230 := ⟨_, Try.func230, by kernel_rfl, rfl⟩
theorem fn231 : IsFn Try.prog 231 := ⟨_, Try.func231, by kernel_rfl, rfl⟩
theorem fn232 : IsFn Try.prog 232 := ⟨_, Try.func232, by kernel_rfl, rfl⟩
theorem fn166 : IsFn Try.prog 166 := ⟨_, Try.func166, by kernel_rfl, rfl⟩
theorem fn167 : IsFn Try.prog 167 := ⟨_, Try.func167, by kernel_rfl, rfl⟩
noncomputable def s_l4Copy (a0 : D_Cmd) : Option D_Cmd :=
  Option.bind (some ([] : List ByteArray)) (fun y2 => Option.bind (appP y2 a0.2.2.2.2.2.2.2) (fun y4 => some (a0.1, a0.2.1, a0.2.2.1, a0.2.2.2.1, a0.2.2.2.2.1, a0.2.2.2.2.2.1, a0.2.2.2.2.2.2.1, y4)))

theorem s_l4Copy_walk (w : World) (a0 : T_Cmd) (h0 : GT.rd w [] a0) (r : D_Cmd) (hp : s_l4Copy (GT.dat a0) = some r) : Spec Try.prog 316 [.agg (GT.cells a0).toArray].toArray w [] (fun v M => ∃ (x0 : T_Cmd), v = .agg (GT.cells x0).toArray ∧ GT.dat x0 = r ∧ M = [treeH x0]) := by
  obtain ⟨a0_1, a0_2, a0_3, a0_4, a0_5, a0_6, a0_7, a0_8⟩ := a0
  change Spec _ _ ([Value.agg #[.int .i64 a0_1, .int .i64 a0_2, .int .i64 a0_3, .string a0_4, .string a0_5, .string a0_6, .int .i64 a0_7, (TL.hdr a0_8)]] : List Value).toArray w [] _
  refine Spec.intro Try.func316 rfl Try.ntmps316 rfl ?_
  unfold s_l4Copy at hp
  try dsimp only [dat_pair, dat_int, dat_bool, dat_str] at hp
  refine W_seq ?_
  refine W_region ?_
  refine L_box rfl rfl (fun bk1 => ?_)
  refine L_alloc rfl zero129 (fun bk2 => ?_)
  refine L_nil ?_
  refine W_seq ?_
  refine W_region ?_
  have ho := hp; clear hp; obtain ⟨y2, hy2, hp⟩ := bind_any ho; clear ho
  refine L_mk0 ByteArray rfl el48 (fun X1 hdX1 => ?_)
  obtain rfl : GT.dat X1 = y2 := hdX1.trans (Option.some.inj hy2)
  clear hy2 hdX1
  refine L_fieldAddr rfl rfl fld129_7 ?_
  refine L_load rfl rfl (RdC.blk (by first | (with_reducible repeat (first | exact List.Mem.head _ | apply List.Mem.tail)); done | (repeat (first | exact List.Mem.head _ | apply List.Mem.tail)))) one48 rfl ?_
  have ho := hp; clear hp; obtain ⟨y4, hy4, hp⟩ := bind_any ho; clear ho
  refine L_appT (X := X1) (Y := a0_8) rfl rfl rfl el48 rfl rfl (by first | (with_reducible repeat (first | exact Pick.here _ | apply Pick.there)); done | (repeat (first | exact Pick.here _ | apply Pick.there))) (RdT.old h0.2.2.2.2.2.2.2) hy4 (by decide) (fun X3 hdX3 => ?_)
  subst hdX3
  refine L_fieldAddr rfl rfl fld129_7 ?_
  refine L_store rfl rfl (by first | (with_reducible repeat (first | exact Pick.here _ | apply Pick.there)); done | (repeat (first | exact Pick.here _ | apply Pick.there))) one48 rfl rfl ?_
  refine L_nil ?_
  refine W_seq ?_
  refine W_region ?_
  refine L_loadW rfl rfl (RdC.blk (by first | (with_reducible repeat (first | exact List.Mem.head _ | apply List.Mem.tail)); done | (repeat (first | exact List.Mem.head _ | apply List.Mem.tail)))) (by exact agg129) ?_
  refine L_storeW rfl rfl (by first | (with_reducible repeat (first | exact Pick.here _ | apply Pick.there)); done | (repeat (first | exact Pick.here _ | apply Pick.there))) (by exact agg129) (by rfl) (by first | exact allOne rfl | exact fun v hv => GT.one _ v hv | (simp [Value.oneCell', TL.hdr, Value.cells]; done)) ?_
  refine L_nil ?_
  obtain rfl := Option.some.inj hp
  refine W_conv (M' := treeH ((a0_7, X3) : Int × TL ByteArray) :: _) (fun w h => jnR (a := a0_7) (b := X3) (by first | (with_reducible repeat (first | exact Pick.here _ | apply Pick.there)); done | (repeat (first | exact Pick.here _ | apply Pick.there))) h) ?_
  refine W_conv (M' := treeH ((a0_6, (a0_7, X3)) : ByteArray × Int × TL ByteArray) :: _) (fun w h => jnR (a := a0_6) (b := (a0_7, X3)) (by first | (with_reducible repeat (first | exact Pick.here _ | apply Pick.there)); done | (repeat (first | exact Pick.here _ | apply Pick.there))) h) ?_
  refine W_conv (M' := treeH ((a0_5, (a0_6, (a0_7, X3))) : ByteArray × ByteArray × Int × TL ByteArray) :: _) (fun w h => jnR (a := a0_5) (b := (a0_6, (a0_7, X3))) (by first | (with_reducible repeat (first | exact Pick.here _ | apply Pick.there)); done | (repeat (first | exact Pick.here _ | apply Pick.there))) h) ?_
  refine W_conv (M' := treeH ((a0_4, (a0_5, (a0_6, (a0_7, X3)))) : ByteArray × ByteArray × ByteArray × Int × TL ByteArray) :: _) (fun w h => jnR (a := a0_4) (b := (a0_5, (a0_6, (a0_7, X3)))) (by first | (with_reducible repeat (first | exact Pick.here _ | apply Pick.there)); done | (repeat (first | exact Pick.here _ | apply Pick.there))) h) ?_
  refine W_conv (M' := treeH ((a0_3, (a0_4, (a0_5, (a0_6, (a0_7, X3))))) : Int × ByteArray × ByteArray × ByteArray × Int × TL ByteArray) :: _) (fun w h => jnR (a := a0_3) (b := (a0_4, (a0_5, (a0_6, (a0_7, X3))))) (by first | (with_reducible repeat (first | exact Pick.here _ | apply Pick.there)); done | (repeat (first | exact Pick.here _ | apply Pick.there))) h) ?_
  refine W_conv (M' := treeH ((a0_2, (a0_3, (a0_4, (a0_5, (a0_6, (a0_7, X3)))))) : Int × Int × ByteArray × ByteArray × ByteArray × Int × TL ByteArray) :: _) (fun w h => jnR (a := a0_2) (b := (a0_3, (a0_4, (a0_5, (a0_6, (a0_7, X3)))))) (by first | (with_reducible repeat (first | exact Pick.here _ | apply Pick.there)); done | (repeat (first | exact Pick.here _ | apply Pick.there))) h) ?_
  refine W_conv (M' := treeH ((a0_1, (a0_2, (a0_3, (a0_4, (a0_5, (a0_6, (a0_7, X3))))))) : Int × Int × Int × ByteArray × ByteArray × ByteArray × Int × TL ByteArray) :: _) (fun w h => jnR (a := a0_1) (b := (a0_2, (a0_3, (a0_4, (a0_5, (a0_6, (a0_7, X3))))))) (by first | (with_reducible repeat (first | exact Pick.here _ | apply Pick.there)); done | (repeat (first | exact Pick.here _ | apply Pick.there))) h) ?_
  refine W_ret ?_
  refine res1 rfl (ResOK.cell rfl (by first | (with_reducible repeat (first | exact List.Mem.head _ | apply List.Mem.tail)); done | (repeat (first | exact List.Mem.head _ | apply List.Mem.tail))) (by exact agg129)) ⟨(a0_1, a0_2, a0_3, a0_4, a0_5, a0_6, a0_7, X3), rfl, rfl, rfl⟩ (MSub.cons (by first | (with_reducible repeat (first | exact Pick.here _ | apply Pick.there)); done | (repeat (first | exact Pick.here _ | apply Pick.there))) (MSub.nil _))

noncomputable def s_l8Copy (a0 : D_Inst) : Option D_Inst :=
  Option.bind (s_l4Copy (a0.2.2.2.2.1.1, a0.2.2.2.2.1.2.1, a0.2.2.2.2.1.2.2.1, a0.2.2.2.2.1.2.2.2.1, a0.2.2.2.2.1.2.2.2.2.1, a0.2.2.2.2.1.2.2.2.2.2.1, a0.2.2.2.2.1.2.2.2.2.2.2.1, a0.2.2.2.2.1.2.2.2.2.2.2.2)) (fun y1 => Option.bind (some ([] : List D_Id)) (fun y3 => Option.bind (appP y3 a0.2.2.2.2.2.2.1) (fun y5 => some ((a0.1.1, a0.1.2), a0.2.1, a0.2.2.1, a0.2.2.2.1, (y1.1, y1.2.1, y1.2.2.1, y1.2.2.2.1, y1.2.2.2.2.1, y1.2.2.2.2.2.1, y1.2.2.2.2.2.2.1, y1.2.2.2.2.2.2.2), a0.2.2.2.2.2.1, y5, a0.2.2.2.2.2.2.2))))

theorem s_l8Copy_walk (w : World) (a0 : T_Inst) (h0 : GT.rd w [] a0) (r : D_Inst) (hp : s_l8Copy (GT.dat a0) = some r) : Spec Try.prog 271 [.agg (GT.cells a0).toArray].toArray w [] (fun v M => ∃ (x0 : T_Inst), v = .agg (GT.cells x0).toArray ∧ GT.dat x0 = r ∧ M = [treeH x0]) := by
  obtain ⟨⟨a0_1, a0_2⟩, a0_3, a0_4, a0_5, ⟨a0_6, a0_7, a0_8, a0_9, a0_10, a0_11, a0_12, a0_13⟩, a0_14, a0_15, a0_16⟩ := a0
  change Spec _ _ ([Value.agg #[.int .i64 a0_1, .int .i64 a0_2, .int .i64 a0_3, .int .i64 a0_4, .int .i64 a0_5, .int .i64 a0_6, .int .i64 a0_7, .int .i64 a0_8, .string a0_9, .string a0_10, .string a0_11, .int .i64 a0_12, (TL.hdr a0_13), .int .i64 a0_14, (TL.hdr a0_15), .bool a0_16]] : List Value).toArray w [] _
  refine Spec.intro Try.func271 rfl Try.ntmps271 rfl ?_
  unfold s_l8Copy at hp
  try dsimp only [dat_pair, dat_int, dat_bool, dat_str] at hp
  refine W_seq ?_
  refine W_region ?_
  refine L_box rfl rfl (fun bk1 => ?_)
  refine L_alloc rfl zero267 (fun bk2 => ?_)
  refine L_nil ?_
  refine W_seq ?_
  refine W_region ?_
  refine L_fieldAddr rfl rfl fld267_4 ?_
  refine L_loadW rfl rfl (RdC.seg (RdC.blk (by first | (with_reducible repeat (first | exact List.Mem.head _ | apply List.Mem.tail)); done | (repeat (first | exact List.Mem.head _ | apply List.Mem.tail)))) 5 8 rfl) (by exact agg129) ?_
  have ho := hp; clear hp; obtain ⟨y1, hy1, hp⟩ := bind_any ho; clear ho
  refine L_callR rfl fn316 rfl (by exact fun w hw => s_l4Copy_walk w (a0_6, a0_7, a0_8, a0_9, a0_10, a0_11, a0_12, a0_13) (RdT.now (RdT.pair RdT.int (RdT.pair RdT.int (RdT.pair RdT.int (RdT.pair RdT.str (RdT.pair RdT.str (RdT.pair RdT.str (RdT.pair RdT.int (RdT.old h0.2.2.2.2.1.2.2.2.2.2.2.2)))))))) hw) _ hy1) ?_
  rintro vy1 My1 ⟨y1x0, hvy1, hdy1, rfl⟩
  subst hvy1
  subst hdy1
  obtain ⟨y1x0_1, y1x0_2, y1x0_3, y1x0_4, y1x0_5, y1x0_6, y1x0_7, y1x0_8⟩ := y1x0
  simp only [cells_pair, cells_int, cells_bool, cells_str, cells_TL, List.cons_append, List.nil_append]
  try dsimp only [dat_pair, dat_int, dat_bool, dat_str] at hp
  refine L_conv (M' := treeH (y1x0_2, y1x0_3, y1x0_4, y1x0_5, y1x0_6, y1x0_7, y1x0_8) :: _) (fun w h => exR (a := y1x0_1) (by first | (with_reducible repeat (first | exact Pick.here _ | apply Pick.there)); done | (repeat (first | exact Pick.here _ | apply Pick.there))) h) ?_
  refine L_conv (M' := treeH (y1x0_3, y1x0_4, y1x0_5, y1x0_6, y1x0_7, y1x0_8) :: _) (fun w h => exR (a := y1x0_2) (by first | (with_reducible repeat (first | exact Pick.here _ | apply Pick.there)); done | (repeat (first | exact Pick.here _ | apply Pick.there))) h) ?_
  refine L_conv (M' := treeH (y1x0_4, y1x0_5, y1x0_6, y1x0_7, y1x0_8) :: _) (fun w h => exR (a := y1x0_3) (by first | (with_reducible repeat (first | exact Pick.here _ | apply Pick.there)); done | (repeat (first | exact Pick.here _ | apply Pick.there))) h) ?_
  refine L_conv (M' := treeH (y1x0_5, y1x0_6, y1x0_7, y1x0_8) :: _) (fun w h => exR (a := y1x0_4) (by first | (with_reducible repeat (first | exact Pick.here _ | apply Pick.there)); done | (repeat (first | exact Pick.here _ | apply Pick.there))) h) ?_
  refine L_conv (M' := treeH (y1x0_6, y1x0_7, y1x0_8) :: _) (fun w h => exR (a := y1x0_5) (by first | (with_reducible repeat (first | exact Pick.here _ | apply Pick.there)); done | (repeat (first | exact Pick.here _ | apply Pick.there))) h) ?_
  refine L_conv (M' := treeH (y1x0_7, y1x0_8) :: _) (fun w h => exR (a := y1x0_6) (by first | (with_reducible repeat (first | exact Pick.here _ | apply Pick.there)); done | (repeat (first | exact Pick.here _ | apply Pick.there))) h) ?_
  refine L_conv (M' := treeH y1x0_8 :: _) (fun w h => exR (a := y1x0_7) (by first | (with_reducible repeat (first | exact Pick.here _ | apply Pick.there)); done | (repeat (first | exact Pick.here _ | apply Pick.there))) h) ?_
  refine L_fieldAddr rfl rfl fld267_4 ?_
  refine L_storeA (fo := 5) rfl rfl (by first | (with_reducible repeat (first | exact Pick.here _ | apply Pick.there)); done | (repeat (first | exact Pick.here _ | apply Pick.there))) (by exact agg129) (Nat.le_of_ble_eq_true rfl) (by first | exact allOne rfl | exact fun v hv => GT.one _ v hv | (simp [Value.oneCell', TL.hdr, Value.cells]; done)) rfl ?_
  refine L_nil ?_
  refine W_seq ?_
  refine W_region ?_
  have ho := hp; clear hp; obtain ⟨y3, hy3, hp⟩ := bind_any ho; clear ho
  refine L_mk0 T_Id rfl el265 (fun X2 hdX2 => ?_)
  obtain rfl : GT.dat X2 = y3 := hdX2.trans (Option.some.inj hy3)
  clear hy3 hdX2
  refine L_fieldAddr rfl rfl fld267_6 ?_
  refine L_load rfl rfl (RdC.blk (by first | (with_reducible repeat (first | exact List.Mem.head _ | apply List.Mem.tail)); done | (repeat (first | exact List.Mem.head _ | apply List.Mem.tail)))) one265 rfl ?_
  have ho := hp; clear hp; obtain ⟨y5, hy5, hp⟩ := bind_any ho; clear ho
  refine L_appT (X := X2) (Y := a0_15) rfl rfl rfl el265 rfl rfl (by first | (with_reducible repeat (first | exact Pick.here _ | apply Pick.there)); done | (repeat (first | exact Pick.here _ | apply Pick.there))) (RdT.old h0.2.2.2.2.2.2.1) hy5 (by decide) (fun X4 hdX4 => ?_)
  subst hdX4
  refine L_fieldAddr rfl rfl fld267_6 ?_
  refine L_store rfl rfl (by first | (with_reducible repeat (first | exact Pick.here _ | apply Pick.there)); done | (repeat (first | exact Pick.here _ | apply Pick.there))) one265 rfl rfl ?_
  refine L_nil ?_
  refine W_seq ?_
  refine W_region ?_
  refine L_loadW rfl rfl (RdC.blk (by first | (with_reducible repeat (first | exact List.Mem.head _ | apply List.Mem.tail)); done | (repeat (first | exact List.Mem.head _ | apply List.Mem.tail)))) (by exact agg267) ?_
  refine L_storeW rfl rfl (by first | (with_reducible repeat (first | exact Pick.here _ | apply Pick.there)); done | (repeat (first | exact Pick.here _ | apply Pick.there))) (by exact agg267) (by rfl) (by first | exact allOne rfl | exact fun v hv => GT.one _ v hv | (simp [Value.oneCell', TL.hdr, Value.cells]; done)) ?_
  refine L_nil ?_
  obtain rfl := Option.some.inj hp
  refine W_conv (M' := treeH ((y1x0_7, y1x0_8) : Int × TL ByteArray) :: _) (fun w h => jnR (a := y1x0_7) (b := y1x0_8) (by first | (with_reducible repeat (first | exact Pick.here _ | apply Pick.there)); done | (repeat (first | exact Pick.here _ | apply Pick.there))) h) ?_
  refine W_conv (M' := treeH ((y1x0_6, (y1x0_7, y1x0_8)) : ByteArray × Int × TL ByteArray) :: _) (fun w h => jnR (a := y1x0_6) (b := (y1x0_7, y1x0_8)) (by first | (with_reducible repeat (first | exact Pick.here _ | apply Pick.there)); done | (repeat (first | exact Pick.here _ | apply Pick.there))) h) ?_
  refine W_conv (M' := treeH ((y1x0_5, (y1x0_6, (y1x0_7, y1x0_8))) : ByteArray × ByteArray × Int × TL ByteArray) :: _) (fun w h => jnR (a := y1x0_5) (b := (y1x0_6, (y1x0_7, y1x0_8))) (by first | (with_reducible repeat (first | exact Pick.here _ | apply Pick.there)); done | (repeat (first | exact Pick.here _ | apply Pick.there))) h) ?_
  refine W_conv (M' := treeH ((y1x0_4, (y1x0_5, (y1x0_6, (y1x0_7, y1x0_8)))) : ByteArray × ByteArray × ByteArray × Int × TL ByteArray) :: _) (fun w h => jnR (a := y1x0_4) (b := (y1x0_5, (y1x0_6, (y1x0_7, y1x0_8)))) (by first | (with_reducible repeat (first | exact Pick.here _ | apply Pick.there)); done | (repeat (first | exact Pick.here _ | apply Pick.there))) h) ?_
  refine W_conv (M' := treeH ((y1x0_3, (y1x0_4, (y1x0_5, (y1x0_6, (y1x0_7, y1x0_8))))) : Int × ByteArray × ByteArray × ByteArray × Int × TL ByteArray) :: _) (fun w h => jnR (a := y1x0_3) (b := (y1x0_4, (y1x0_5, (y1x0_6, (y1x0_7, y1x0_8))))) (by first | (with_reducible repeat (first | exact Pick.here _ | apply Pick.there)); done | (repeat (first | exact Pick.here _ | apply Pick.there))) h) ?_
  refine W_conv (M' := treeH ((y1x0_2, (y1x0_3, (y1x0_4, (y1x0_5, (y1x0_6, (y1x0_7, y1x0_8)))))) : Int × Int × ByteArray × ByteArray × ByteArray × Int × TL ByteArray) :: _) (fun w h => jnR (a := y1x0_2) (b := (y1x0_3, (y1x0_4, (y1x0_5, (y1x0_6, (y1x0_7, y1x0_8)))))) (by first | (with_reducible repeat (first | exact Pick.here _ | apply Pick.there)); done | (repeat (first | exact Pick.here _ | apply Pick.there))) h) ?_
  refine W_conv (M' := treeH ((y1x0_1, (y1x0_2, (y1x0_3, (y1x0_4, (y1x0_5, (y1x0_6, (y1x0_7, y1x0_8))))))) : Int × Int × Int × ByteArray × ByteArray × ByteArray × Int × TL ByteArray) :: _) (fun w h => jnR (a := y1x0_1) (b := (y1x0_2, (y1x0_3, (y1x0_4, (y1x0_5, (y1x0_6, (y1x0_7, y1x0_8))))))) (by first | (with_reducible repeat (first | exact Pick.here _ | apply Pick.there)); done | (repeat (first | exact Pick.here _ | apply Pick.there))) h) ?_
  refine W_conv (M' := treeH ((X4, a0_16) : (TL T_Id) × Bool) :: _) (fun w h => jnL (a := X4) (b := a0_16) (by first | (with_reducible repeat (first | exact Pick.here _ | apply Pick.there)); done | (repeat (first | exact Pick.here _ | apply Pick.there))) h) ?_
  refine W_conv (M' := treeH ((a0_14, (X4, a0_16)) : Int × (TL T_Id) × Bool) :: _) (fun w h => jnR (a := a0_14) (b := (X4, a0_16)) (by first | (with_reducible repeat (first | exact Pick.here _ | apply Pick.there)); done | (repeat (first | exact Pick.here _ | apply Pick.there))) h) ?_
  refine W_conv (M' := treeH (((y1x0_1, (y1x0_2, (y1x0_3, (y1x0_4, (y1x0_5, (y1x0_6, (y1x0_7, y1x0_8))))))), (a0_14, (X4, a0_16))) : T_Cmd × Int × (TL T_Id) × Bool) :: _) (fun w h => jn2 (a := (y1x0_1, (y1x0_2, (y1x0_3, (y1x0_4, (y1x0_5, (y1x0_6, (y1x0_7, y1x0_8)))))))) (b := (a0_14, (X4, a0_16))) (by first | (with_reducible repeat (first | exact Pick.here _ | apply Pick.there)); done | (repeat (first | exact Pick.here _ | apply Pick.there))) (by first | (with_reducible repeat (first | exact Pick.here _ | apply Pick.there)); done | (repeat (first | exact Pick.here _ | apply Pick.there))) h) ?_
  refine W_conv (M' := treeH ((a0_5, ((y1x0_1, (y1x0_2, (y1x0_3, (y1x0_4, (y1x0_5, (y1x0_6, (y1x0_7, y1x0_8))))))), (a0_14, (X4, a0_16)))) : Int × T_Cmd × Int × (TL T_Id) × Bool) :: _) (fun w h => jnR (a := a0_5) (b := ((y1x0_1, (y1x0_2, (y1x0_3, (y1x0_4, (y1x0_5, (y1x0_6, (y1x0_7, y1x0_8))))))), (a0_14, (X4, a0_16)))) (by first | (with_reducible repeat (first | exact Pick.here _ | apply Pick.there)); done | (repeat (first | exact Pick.here _ | apply Pick.there))) h) ?_
  refine W_conv (M' := treeH ((a0_4, (a0_5, ((y1x0_1, (y1x0_2, (y1x0_3, (y1x0_4, (y1x0_5, (y1x0_6, (y1x0_7, y1x0_8))))))), (a0_14, (X4, a0_16))))) : Int × Int × T_Cmd × Int × (TL T_Id) × Bool) :: _) (fun w h => jnR (a := a0_4) (b := (a0_5, ((y1x0_1, (y1x0_2, (y1x0_3, (y1x0_4, (y1x0_5, (y1x0_6, (y1x0_7, y1x0_8))))))), (a0_14, (X4, a0_16))))) (by first | (with_reducible repeat (first | exact Pick.here _ | apply Pick.there)); done | (repeat (first | exact Pick.here _ | apply Pick.there))) h) ?_
  refine W_conv (M' := treeH ((a0_3, (a0_4, (a0_5, ((y1x0_1, (y1x0_2, (y1x0_3, (y1x0_4, (y1x0_5, (y1x0_6, (y1x0_7, y1x0_8))))))), (a0_14, (X4, a0_16)))))) : Int × Int × Int × T_Cmd × Int × (TL T_Id) × Bool) :: _) (fun w h => jnR (a := a0_3) (b := (a0_4, (a0_5, ((y1x0_1, (y1x0_2, (y1x0_3, (y1x0_4, (y1x0_5, (y1x0_6, (y1x0_7, y1x0_8))))))), (a0_14, (X4, a0_16)))))) (by first | (with_reducible repeat (first | exact Pick.here _ | apply Pick.there)); done | (repeat (first | exact Pick.here _ | apply Pick.there))) h) ?_
  refine W_conv (M' := treeH (((a0_1, a0_2), (a0_3, (a0_4, (a0_5, ((y1x0_1, (y1x0_2, (y1x0_3, (y1x0_4, (y1x0_5, (y1x0_6, (y1x0_7, y1x0_8))))))), (a0_14, (X4, a0_16))))))) : T_Id × Int × Int × Int × T_Cmd × Int × (TL T_Id) × Bool) :: _) (fun w h => jnR (a := (a0_1, a0_2)) (b := (a0_3, (a0_4, (a0_5, ((y1x0_1, (y1x0_2, (y1x0_3, (y1x0_4, (y1x0_5, (y1x0_6, (y1x0_7, y1x0_8))))))), (a0_14, (X4, a0_16))))))) (by first | (with_reducible repeat (first | exact Pick.here _ | apply Pick.there)); done | (repeat (first | exact Pick.here _ | apply Pick.there))) h) ?_
  refine W_ret ?_
  refine res1 rfl (ResOK.cell rfl (by first | (with_reducible repeat (first | exact List.Mem.head _ | apply List.Mem.tail)); done | (repeat (first | exact List.Mem.head _ | apply List.Mem.tail))) (by exact agg267)) ⟨((a0_1, a0_2), a0_3, a0_4, a0_5, (y1x0_1, y1x0_2, y1x0_3, y1x0_4, y1x0_5, y1x0_6, y1x0_7, y1x0_8), a0_14, X4, a0_16), rfl, rfl, rfl⟩ (MSub.cons (by first | (with_reducible repeat (first | exact Pick.here _ | apply Pick.there)); done | (repeat (first | exact Pick.here _ | apply Pick.there))) (MSub.nil _))

noncomputable def s_l8CopyAll (a0 : List D_Inst) : Option (List D_Inst) :=
  Option.bind (some ([] : List D_Inst)) (fun y2 => whileP (fun s3 : (List D_Inst) × Int => cond (decide (s3.2 < (a0.length : Int))) (Option.bind (idx a0 s3.2) (fun y5 => Option.bind (s_l8Copy ((y5.1.1, y5.1.2), y5.2.1, y5.2.2.1, y5.2.2.2.1, (y5.2.2.2.2.1.1, y5.2.2.2.2.1.2.1, y5.2.2.2.2.1.2.2.1, y5.2.2.2.2.1.2.2.2.1, y5.2.2.2.2.1.2.2.2.2.1, y5.2.2.2.2.1.2.2.2.2.2.1, y5.2.2.2.2.1.2.2.2.2.2.2.1, y5.2.2.2.2.1.2.2.2.2.2.2.2), y5.2.2.2.2.2.1, y5.2.2.2.2.2.2.1, y5.2.2.2.2.2.2.2)) (fun y6 => Option.bind (appP s3.1 [((y6.1.1, y6.1.2), y6.2.1, y6.2.2.1, y6.2.2.2.1, (y6.2.2.2.2.1.1, y6.2.2.2.2.1.2.1, y6.2.2.2.2.1.2.2.1, y6.2.2.2.2.1.2.2.2.1, y6.2.2.2.2.1.2.2.2.2.1, y6.2.2.2.2.1.2.2.2.2.2.1, y6.2.2.2.2.1.2.2.2.2.2.2.1, y6.2.2.2.2.1.2.2.2.2.2.2.2), y6.2.2.2.2.2.1, y6.2.2.2.2.2.2.1, y6.2.2.2.2.2.2.2)]) (fun y8 => some (.inl ((y8, IntKind.wrap .i64 (s3.2 + 1)))))))) (Option.map .inr (some s3.1))) (y2, 0))

theorem s_l8CopyAll_walk (w : World) (a0 : TL T_Inst) (h0 : GT.rd w [] a0) (r : (List D_Inst)) (hp : s_l8CopyAll (GT.dat a0) = some r) : Spec Try.prog 225 [(TL.hdr a0)].toArray w [] (fun v M => ∃ (x0 : TL T_Inst), v = (TL.hdr x0) ∧ GT.dat x0 = r ∧ M = [treeH x0]) := by
  refine Spec.intro Try.func225 rfl Try.ntmps225 rfl ?_
  unfold s_l8CopyAll at hp
  try dsimp only [dat_pair, dat_int, dat_bool, dat_str] at hp
  refine W_seq ?_
  refine W_region ?_
  refine L_assign (v := (TL.hdr (TL.nil T_Inst 0))) rfl rfl ?_
  refine L_nil ?_
  refine W_seq ?_
  refine W_region ?_
  have ho := hp; clear hp; obtain ⟨y2, hy2, hp⟩ := bind_any ho; clear ho
  refine L_mk0 T_Inst rfl el114 (fun X1 hdX1 => ?_)
  obtain rfl : GT.dat X1 = y2 := hdX1.trans (Option.some.inj hy2)
  clear hy2 hdX1
  refine L_assign rfl rfl ?_
  refine L_nil ?_
  refine W_seq ?_
  refine W_seq ?_
  refine W_region ?_
  refine L_assign rfl rfl ?_
  refine L_nil ?_
  refine W_block ?_
  refine W_while (σ := (TL T_Inst) × Int) GT.dat (fun ((v3_0, v3_1) : (TL T_Inst) × Int) => [(3, (TL.hdr v3_0)), (4, .int .i64 v3_1)]) (fun ((v3_0, v3_1) : (TL T_Inst) × Int) => [treeH v3_0]) [(0, _)] [] (X1, 0) hp (Sub.cons rfl (Sub.cons rfl (Sub.cons rfl (Sub.nil _)))) (MSub.cons (by first | (with_reducible repeat (first | exact Pick.here _ | apply Pick.there)); done | (repeat (first | exact Pick.here _ | apply Pick.there))) (MSub.nil _)) ?_
  clear hp
  rintro ⟨v3_0, v3_1⟩ x3 hp hx3
  try dsimp only [dat_pair, dat_int, dat_bool, dat_str] at hp
  refine W_weaken (l' := [(0, _), (3, _), (4, _)]) (Sub.cons rfl (Sub.cons rfl (Sub.cons rfl (Sub.nil _)))) (M' := [_]) (MSub.cons (by first | (with_reducible repeat (first | exact Pick.here _ | apply Pick.there)); done | (repeat (first | exact Pick.here _ | apply Pick.there))) (MSub.nil _)) ?_
  refine W_seq ?_
  refine W_seq ?_
  refine W_region ?_
  refine L_move rfl rfl ?_
  refine L_move rfl rfl ?_
  refine L_lenP (X := a0) rfl rfl el114 ?_
  refine L_binV rfl rfl rfl bv_lss ?_
  refine L_nil ?_
  refine W_weaken (l' := [(0, _), (3, _), (4, _), (9, _)]) (Sub.cons rfl (Sub.cons rfl (Sub.cons rfl (Sub.cons rfl (Sub.nil _))))) (MSub.refl _) ?_
  refine W_cond rfl (fun hc4 => ?_) (fun hc4 => ?_)
  · skip
    replace hp := cond_t hc4 hp
    refine W_skip ?_
    refine W_seq ?_
    refine W_block ?_
    refine W_region ?_
    refine L_move rfl rfl ?_
    refine L_move rfl rfl ?_
    refine L_move rfl rfl ?_
    have ho := hp; clear hp; obtain ⟨u5, hy5, hp⟩ := idx_bind ho; clear ho
    obtain ⟨⟨u5_1, u5_2⟩, u5_3, u5_4, u5_5, ⟨u5_6, u5_7, u5_8, u5_9, u5_10, u5_11, u5_12, u5_13⟩, u5_14, u5_15, u5_16⟩ := u5
    refine L_idxA (X := a0) rfl rfl rfl el114 (RdT.old h0) hy5 ?_
    refine L_loadW rfl rfl (RdT.at (RdT.old h0) (hy5).2) (by exact agg267) ?_
    have ho := hp; clear hp; obtain ⟨y6, hy6, hp⟩ := bind_any ho; clear ho
    refine L_callR rfl fn271 rfl (by exact fun w hw => s_l8Copy_walk w ((u5_1, u5_2), u5_3, u5_4, u5_5, (u5_6, u5_7, u5_8, u5_9, u5_10, u5_11, u5_12, u5_13), u5_14, u5_15, u5_16) (RdT.now (RdT.pair (RdT.pair RdT.int RdT.int) (RdT.pair RdT.int (RdT.pair RdT.int (RdT.pair RdT.int (RdT.pair (RdT.pair RdT.int (RdT.pair RdT.int (RdT.pair RdT.int (RdT.pair RdT.str (RdT.pair RdT.str (RdT.pair RdT.str (RdT.pair RdT.int (RdT.snd (RdT.snd (RdT.snd (RdT.snd (RdT.snd (RdT.snd (RdT.snd (RdT.fst (RdT.snd (RdT.snd (RdT.snd (RdT.snd (RdT.of (RdT.old h0) (hy5).2)))))))))))))))))))) (RdT.pair RdT.int (RdT.pair (RdT.fst (RdT.snd (RdT.snd (RdT.snd (RdT.snd (RdT.snd (RdT.snd (RdT.of (RdT.old h0) (hy5).2)))))))) RdT.bool))))))) hw) _ hy6) ?_
    rintro vy6 My6 ⟨y6x0, hvy6, hdy6, rfl⟩
    subst hvy6
    subst hdy6
    obtain ⟨⟨y6x0_1, y6x0_2⟩, y6x0_3, y6x0_4, y6x0_5, ⟨y6x0_6, y6x0_7, y6x0_8, y6x0_9, y6x0_10, y6x0_11, y6x0_12, y6x0_13⟩, y6x0_14, y6x0_15, y6x0_16⟩ := y6x0
    simp only [cells_pair, cells_int, cells_bool, cells_str, cells_TL, List.cons_append, List.nil_append]
    try dsimp only [dat_pair, dat_int, dat_bool, dat_str] at hp
    refine L_conv (M' := treeH (y6x0_3, y6x0_4, y6x0_5, (y6x0_6, y6x0_7, y6x0_8, y6x0_9, y6x0_10, y6x0_11, y6x0_12, y6x0_13), y6x0_14, y6x0_15, y6x0_16) :: _) (fun w h => exR (a := (y6x0_1, y6x0_2)) (by first | (with_reducible repeat (first | exact Pick.here _ | apply Pick.there)); done | (repeat (first | exact Pick.here _ | apply Pick.there))) h) ?_
    refine L_conv (M' := treeH (y6x0_4, y6x0_5, (y6x0_6, y6x0_7, y6x0_8, y6x0_9, y6x0_10, y6x0_11, y6x0_12, y6x0_13), y6x0_14, y6x0_15, y6x0_16) :: _) (fun w h => exR (a := y6x0_3) (by first | (with_reducible repeat (first | exact Pick.here _ | apply Pick.there)); done | (repeat (first | exact Pick.here _ | apply Pick.there))) h) ?_
    refine L_conv (M' := treeH (y6x0_5, (y6x0_6, y6x0_7, y6x0_8, y6x0_9, y6x0_10, y6x0_11, y6x0_12, y6x0_13), y6x0_14, y6x0_15, y6x0_16) :: _) (fun w h => exR (a := y6x0_4) (by first | (with_reducible repeat (first | exact Pick.here _ | apply Pick.there)); done | (repeat (first | exact Pick.here _ | apply Pick.there))) h) ?_
    refine L_conv (M' := treeH ((y6x0_6, y6x0_7, y6x0_8, y6x0_9, y6x0_10, y6x0_11, y6x0_12, y6x0_13), y6x0_14, y6x0_15, y6x0_16) :: _) (fun w h => exR (a := y6x0_5) (by first | (with_reducible repeat (first | exact Pick.here _ | apply Pick.there)); done | (repeat (first | exact Pick.here _ | apply Pick.there))) h) ?_
    refine L_conv (M' := treeH (y6x0_6, y6x0_7, y6x0_8, y6x0_9, y6x0_10, y6x0_11, y6x0_12, y6x0_13) :: treeH (y6x0_14, y6x0_15, y6x0_16) :: _) (fun w h => ex2 (by first | (with_reducible repeat (first | exact Pick.here _ | apply Pick.there)); done | (repeat (first | exact Pick.here _ | apply Pick.there))) h) ?_
    refine L_conv (M' := treeH (y6x0_7, y6x0_8, y6x0_9, y6x0_10, y6x0_11, y6x0_12, y6x0_13) :: _) (fun w h => exR (a := y6x0_6) (by first | (with_reducible repeat (first | exact Pick.here _ | apply Pick.there)); done | (repeat (first | exact Pick.here _ | apply Pick.there))) h) ?_
    refine L_conv (M' := treeH (y6x0_8, y6x0_9, y6x0_10, y6x0_11, y6x0_12, y6x0_13) :: _) (fun w h => exR (a := y6x0_7) (by first | (with_reducible repeat (first | exact Pick.here _ | apply Pick.there)); done | (repeat (first | exact Pick.here _ | apply Pick.there))) h) ?_
    refine L_conv (M' := treeH (y6x0_9, y6x0_10, y6x0_11, y6x0_12, y6x0_13) :: _) (fun w h => exR (a := y6x0_8) (by first | (with_reducible repeat (first | exact Pick.here _ | apply Pick.there)); done | (repeat (first | exact Pick.here _ | apply Pick.there))) h) ?_
    refine L_conv (M' := treeH (y6x0_10, y6x0_11, y6x0_12, y6x0_13) :: _) (fun w h => exR (a := y6x0_9) (by first | (with_reducible repeat (first | exact Pick.here _ | apply Pick.there)); done | (repeat (first | exact Pick.here _ | apply Pick.there))) h) ?_
    refine L_conv (M' := treeH (y6x0_11, y6x0_12, y6x0_13) :: _) (fun w h => exR (a := y6x0_10) (by first | (with_reducible repeat (first | exact Pick.here _ | apply Pick.there)); done | (repeat (first | exact Pick.here _ | apply Pick.there))) h) ?_
    refine L_conv (M' := treeH (y6x0_12, y6x0_13) :: _) (fun w h => exR (a := y6x0_11) (by first | (with_reducible repeat (first | exact Pick.here _ | apply Pick.there)); done | (repeat (first | exact Pick.here _ | apply Pick.there))) h) ?_
    refine L_conv (M' := treeH y6x0_13 :: _) (fun w h => exR (a := y6x0_12) (by first | (with_reducible repeat (first | exact Pick.here _ | apply Pick.there)); done | (repeat (first | exact Pick.here _ | apply Pick.there))) h) ?_
    refine L_conv (M' := treeH (y6x0_15, y6x0_16) :: _) (fun w h => exR (a := y6x0_14) (by first | (with_reducible repeat (first | exact Pick.here _ | apply Pick.there)); done | (repeat (first | exact Pick.here _ | apply Pick.there))) h) ?_
    refine L_conv (M' := treeH y6x0_15 :: _) (fun w h => exL (b := y6x0_16) (by first | (with_reducible repeat (first | exact Pick.here _ | apply Pick.there)); done | (repeat (first | exact Pick.here _ | apply Pick.there))) h) ?_
    refine L_buildSlice1 rfl rfl el114 rfl (by decide) (by decide) rfl (fun bb18 => ?_)
    have ho := hp; clear hp; obtain ⟨y8, hy8, hp⟩ := bind_any ho; clear ho
    refine L_conv (M' := treeH ((y6x0_12, y6x0_13) : Int × TL ByteArray) :: _) (fun w h => jnR (a := y6x0_12) (b := y6x0_13) (by first | (with_reducible repeat (first | exact Pick.here _ | apply Pick.there)); done | (repeat (first | exact Pick.here _ | apply Pick.there))) h) ?_
    refine L_conv (M' := treeH ((y6x0_11, (y6x0_12, y6x0_13)) : ByteArray × Int × TL ByteArray) :: _) (fun w h => jnR (a := y6x0_11) (b := (y6x0_12, y6x0_13)) (by first | (with_reducible repeat (first | exact Pick.here _ | apply Pick.there)); done | (repeat (first | exact Pick.here _ | apply Pick.there))) h) ?_
    refine L_conv (M' := treeH ((y6x0_10, (y6x0_11, (y6x0_12, y6x0_13))) : ByteArray × ByteArray × Int × TL ByteArray) :: _) (fun w h => jnR (a := y6x0_10) (b := (y6x0_11, (y6x0_12, y6x0_13))) (by first | (with_reducible repeat (first | exact Pick.here _ | apply Pick.there)); done | (repeat (first | exact Pick.here _ | apply Pick.there))) h) ?_
    refine L_conv (M' := treeH ((y6x0_9, (y6x0_10, (y6x0_11, (y6x0_12, y6x0_13)))) : ByteArray × ByteArray × ByteArray × Int × TL ByteArray) :: _) (fun w h => jnR (a := y6x0_9) (b := (y6x0_10, (y6x0_11, (y6x0_12, y6x0_13)))) (by first | (with_reducible repeat (first | exact Pick.here _ | apply Pick.there)); done | (repeat (first | exact Pick.here _ | apply Pick.there))) h) ?_
    refine L_conv (M' := treeH ((y6x0_8, (y6x0_9, (y6x0_10, (y6x0_11, (y6x0_12, y6x0_13))))) : Int × ByteArray × ByteArray × ByteArray × Int × TL ByteArray) :: _) (fun w h => jnR (a := y6x0_8) (b := (y6x0_9, (y6x0_10, (y6x0_11, (y6x0_12, y6x0_13))))) (by first | (with_reducible repeat (first | exact Pick.here _ | apply Pick.there)); done | (repeat (first | exact Pick.here _ | apply Pick.there))) h) ?_
    refine L_conv (M' := treeH ((y6x0_7, (y6x0_8, (y6x0_9, (y6x0_10, (y6x0_11, (y6x0_12, y6x0_13)))))) : Int × Int × ByteArray × ByteArray × ByteArray × Int × TL ByteArray) :: _) (fun w h => jnR (a := y6x0_7) (b := (y6x0_8, (y6x0_9, (y6x0_10, (y6x0_11, (y6x0_12, y6x0_13)))))) (by first | (with_reducible repeat (first | exact Pick.here _ | apply Pick.there)); done | (repeat (first | exact Pick.here _ | apply Pick.there))) h) ?_
    refine L_conv (M' := treeH ((y6x0_6, (y6x0_7, (y6x0_8, (y6x0_9, (y6x0_10, (y6x0_11, (y6x0_12, y6x0_13))))))) : Int × Int × Int × ByteArray × ByteArray × ByteArray × Int × TL ByteArray) :: _) (fun w h => jnR (a := y6x0_6) (b := (y6x0_7, (y6x0_8, (y6x0_9, (y6x0_10, (y6x0_11, (y6x0_12, y6x0_13))))))) (by first | (with_reducible repeat (first | exact Pick.here _ | apply Pick.there)); done | (repeat (first | exact Pick.here _ | apply Pick.there))) h) ?_
    refine L_conv (M' := treeH ((y6x0_15, y6x0_16) : (TL T_Id) × Bool) :: _) (fun w h => jnL (a := y6x0_15) (b := y6x0_16) (by first | (with_reducible repeat (first | exact Pick.here _ | apply Pick.there)); done | (repeat (first | exact Pick.here _ | apply Pick.there))) h) ?_
    refine L_conv (M' := treeH ((y6x0_14, (y6x0_15, y6x0_16)) : Int × (TL T_Id) × Bool) :: _) (fun w h => jnR (a := y6x0_14) (b := (y6x0_15, y6x0_16)) (by first | (with_reducible repeat (first | exact Pick.here _ | apply Pick.there)); done | (repeat (first | exact Pick.here _ | apply Pick.there))) h) ?_
    refine L_conv (M' := treeH (((y6x0_6, (y6x0_7, (y6x0_8, (y6x0_9, (y6x0_10, (y6x0_11, (y6x0_12, y6x0_13))))))), (y6x0_14, (y6x0_15, y6x0_16))) : T_Cmd × Int × (TL T_Id) × Bool) :: _) (fun w h => jn2 (a := (y6x0_6, (y6x0_7, (y6x0_8, (y6x0_9, (y6x0_10, (y6x0_11, (y6x0_12, y6x0_13)))))))) (b := (y6x0_14, (y6x0_15, y6x0_16))) (by first | (with_reducible repeat (first | exact Pick.here _ | apply Pick.there)); done | (repeat (first | exact Pick.here _ | apply Pick.there))) (by first | (with_reducible repeat (first | exact Pick.here _ | apply Pick.there)); done | (repeat (first | exact Pick.here _ | apply Pick.there))) h) ?_
    refine L_conv (M' := treeH ((y6x0_5, ((y6x0_6, (y6x0_7, (y6x0_8, (y6x0_9, (y6x0_10, (y6x0_11, (y6x0_12, y6x0_13))))))), (y6x0_14, (y6x0_15, y6x0_16)))) : Int × T_Cmd × Int × (TL T_Id) × Bool) :: _) (fun w h => jnR (a := y6x0_5) (b := ((y6x0_6, (y6x0_7, (y6x0_8, (y6x0_9, (y6x0_10, (y6x0_11, (y6x0_12, y6x0_13))))))), (y6x0_14, (y6x0_15, y6x0_16)))) (by first | (with_reducible repeat (first | exact Pick.here _ | apply Pick.there)); done | (repeat (first | exact Pick.here _ | apply Pick.there))) h) ?_
    refine L_conv (M' := treeH ((y6x0_4, (y6x0_5, ((y6x0_6, (y6x0_7, (y6x0_8, (y6x0_9, (y6x0_10, (y6x0_11, (y6x0_12, y6x0_13))))))), (y6x0_14, (y6x0_15, y6x0_16))))) : Int × Int × T_Cmd × Int × (TL T_Id) × Bool) :: _) (fun w h => jnR (a := y6x0_4) (b := (y6x0_5, ((y6x0_6, (y6x0_7, (y6x0_8, (y6x0_9, (y6x0_10, (y6x0_11, (y6x0_12, y6x0_13))))))), (y6x0_14, (y6x0_15, y6x0_16))))) (by first | (with_reducible repeat (first | exact Pick.here _ | apply Pick.there)); done | (repeat (first | exact Pick.here _ | apply Pick.there))) h) ?_
    refine L_conv (M' := treeH ((y6x0_3, (y6x0_4, (y6x0_5, ((y6x0_6, (y6x0_7, (y6x0_8, (y6x0_9, (y6x0_10, (y6x0_11, (y6x0_12, y6x0_13))))))), (y6x0_14, (y6x0_15, y6x0_16)))))) : Int × Int × Int × T_Cmd × Int × (TL T_Id) × Bool) :: _) (fun w h => jnR (a := y6x0_3) (b := (y6x0_4, (y6x0_5, ((y6x0_6, (y6x0_7, (y6x0_8, (y6x0_9, (y6x0_10, (y6x0_11, (y6x0_12, y6x0_13))))))), (y6x0_14, (y6x0_15, y6x0_16)))))) (by first | (with_reducible repeat (first | exact Pick.here _ | apply Pick.there)); done | (repeat (first | exact Pick.here _ | apply Pick.there))) h) ?_
    refine L_conv (M' := treeH (((y6x0_1, y6x0_2), (y6x0_3, (y6x0_4, (y6x0_5, ((y6x0_6, (y6x0_7, (y6x0_8, (y6x0_9, (y6x0_10, (y6x0_11, (y6x0_12, y6x0_13))))))), (y6x0_14, (y6x0_15, y6x0_16))))))) : T_Id × Int × Int × Int × T_Cmd × Int × (TL T_Id) × Bool) :: _) (fun w h => jnR (a := (y6x0_1, y6x0_2)) (b := (y6x0_3, (y6x0_4, (y6x0_5, ((y6x0_6, (y6x0_7, (y6x0_8, (y6x0_9, (y6x0_10, (y6x0_11, (y6x0_12, y6x0_13))))))), (y6x0_14, (y6x0_15, y6x0_16))))))) (by first | (with_reducible repeat (first | exact Pick.here _ | apply Pick.there)); done | (repeat (first | exact Pick.here _ | apply Pick.there))) h) ?_
    refine L_app1 (X := v3_0) (((y6x0_1, y6x0_2), y6x0_3, y6x0_4, y6x0_5, (y6x0_6, y6x0_7, y6x0_8, y6x0_9, y6x0_10, y6x0_11, y6x0_12, y6x0_13), y6x0_14, y6x0_15, y6x0_16) : T_Inst) rfl rfl rfl el114 rfl rfl (by first | (with_reducible repeat (first | exact Pick.here _ | apply Pick.there)); done | (repeat (first | exact Pick.here _ | apply Pick.there))) (by first | (with_reducible repeat (first | exact List.Mem.head _ | apply List.Mem.tail)); done | (repeat (first | exact List.Mem.head _ | apply List.Mem.tail))) (by first | (with_reducible repeat (first | exact Pick.here _ | apply Pick.there)); done | (repeat (first | exact Pick.here _ | apply Pick.there))) hy8 (by decide) (fun X7 hdX7 => ?_)
    subst hdX7
    refine L_assign rfl rfl ?_
    refine L_nil ?_
    refine W_region ?_
    refine L_move rfl rfl ?_
    refine L_binV rfl rfl rfl bv_add ?_
    refine L_assign rfl rfl ?_
    refine L_nil ?_
    exact ⟨(X7, IntKind.wrap .i64 (v3_1 + 1)), (Sub.cons rfl (Sub.cons rfl (Sub.cons rfl (Sub.nil _)))), (Arr.sub (MSub.cons (by first | (with_reducible repeat (first | exact Pick.here _ | apply Pick.there)); done | (repeat (first | exact Pick.here _ | apply Pick.there))) (MSub.nil _))), some_eq hp⟩
  · skip
    replace hp := cond_f hc4 hp
    refine W_exit ?_
    have ho := hp; clear hp; obtain ⟨a9, hp, hx_a9⟩ := map_any ho; clear ho
    obtain rfl := hx3 _ hx_a9
    refine W_seq ?_
    refine W_region ?_
    refine L_move rfl rfl ?_
    refine L_assign rfl rfl ?_
    refine L_nil ?_
    obtain rfl := Option.some.inj hp
    refine W_ret ?_
    refine res1 rfl (ResOK.tmp rfl) ⟨v3_0, rfl, rfl, rfl⟩ (MSub.cons (by first | (with_reducible repeat (first | exact Pick.here _ | apply Pick.there)); done | (repeat (first | exact Pick.here _ | apply Pick.there))) (MSub.nil _))

noncomputable def i_copyTexts (a0 : List ByteArray) : Option (List ByteArray) :=
  Option.bind (appP ([] : List ByteArray) a0) (fun y2 => some y2)

theorem i_copyTexts_walk (w : World) (a0 : TL ByteArray) (h0 : GT.rd w [] a0) (r : (List ByteArray)) (hp : i_copyTexts (GT.dat a0) = some r) : Spec Try.prog 193 [(TL.hdr a0)].toArray w [] (fun v M => ∃ (x0 : TL ByteArray), v = (TL.hdr x0) ∧ GT.dat x0 = r ∧ M = [treeH x0]) := by
  refine Spec.intro Try.func193 rfl Try.ntmps193 rfl ?_
  unfold i_copyTexts at hp
  try dsimp only [dat_pair, dat_int, dat_bool, dat_str] at hp
  refine W_seq ?_
  refine W_region ?_
  refine L_assign (v := (TL.hdr (TL.nil ByteArray 0))) rfl rfl ?_
  refine L_nil ?_
  refine W_seq ?_
  refine W_region ?_
  refine L_move rfl rfl ?_
  refine L_conv (M' := treeH (TL.nil ByteArray 0) :: _) (fun w h => addNilT _ h) ?_
  have ho := hp; clear hp; obtain ⟨y2, hy2, hp⟩ := bind_any ho; clear ho
  refine L_appT (X := (TL.nil ByteArray 0)) (Y := a0) rfl rfl rfl el48 rfl rfl (by first | (with_reducible repeat (first | exact Pick.here _ | apply Pick.there)); done | (repeat (first | exact Pick.here _ | apply Pick.there))) (RdT.old h0) hy2 (by decide) (fun X1 hdX1 => ?_)
  subst hdX1
  refine L_assign rfl rfl ?_
  refine L_nil ?_
  obtain rfl := Option.some.inj hp
  refine W_ret ?_
  refine res1 rfl (ResOK.tmp rfl) ⟨X1, rfl, rfl, rfl⟩ (MSub.cons (by first | (with_reducible repeat (first | exact Pick.here _ | apply Pick.there)); done | (repeat (first | exact Pick.here _ | apply Pick.there))) (MSub.nil _))

noncomputable def i_copyCmd (a0 : D_Cmd) : Option D_Cmd :=
  Option.bind (i_copyTexts a0.2.2.2.2.2.2.2) (fun y1 => some (a0.1, a0.2.1, a0.2.2.1, a0.2.2.2.1, a0.2.2.2.2.1, a0.2.2.2.2.2.1, a0.2.2.2.2.2.2.1, y1))

theorem i_copyCmd_walk (w : World) (a0 : T_Cmd) (h0 : GT.rd w [] a0) (r : D_Cmd) (hp : i_copyCmd (GT.dat a0) = some r) : Spec Try.prog 320 [.agg (GT.cells a0).toArray].toArray w [] (fun v M => ∃ (x0 : T_Cmd), v = .agg (GT.cells x0).toArray ∧ GT.dat x0 = r ∧ M = [treeH x0]) := by
  obtain ⟨a0_1, a0_2, a0_3, a0_4, a0_5, a0_6, a0_7, a0_8⟩ := a0
  change Spec _ _ ([Value.agg #[.int .i64 a0_1, .int .i64 a0_2, .int .i64 a0_3, .string a0_4, .string a0_5, .string a0_6, .int .i64 a0_7, (TL.hdr a0_8)]] : List Value).toArray w [] _
  refine Spec.intro Try.func320 rfl Try.ntmps320 rfl ?_
  unfold i_copyCmd at hp
  try dsimp only [dat_pair, dat_int, dat_bool, dat_str] at hp
  refine W_seq ?_
  refine W_region ?_
  refine L_box rfl rfl (fun bk1 => ?_)
  refine L_alloc rfl zero129 (fun bk2 => ?_)
  refine L_nil ?_
  refine W_seq ?_
  refine W_region ?_
  refine L_fieldAddr rfl rfl fld129_7 ?_
  refine L_load rfl rfl (RdC.blk (by first | (with_reducible repeat (first | exact List.Mem.head _ | apply List.Mem.tail)); done | (repeat (first | exact List.Mem.head _ | apply List.Mem.tail)))) one48 rfl ?_
  have ho := hp; clear hp; obtain ⟨y1, hy1, hp⟩ := bind_any ho; clear ho
  refine L_callR rfl fn193 rfl (by exact fun w hw => i_copyTexts_walk w a0_8 (RdT.now (RdT.old h0.2.2.2.2.2.2.2) hw) _ hy1) ?_
  rintro vy1 My1 ⟨y1x0, hvy1, hdy1, rfl⟩
  subst hvy1
  subst hdy1
  simp only [cells_pair, cells_int, cells_bool, cells_str, cells_TL, List.cons_append, List.nil_append]
  try dsimp only [dat_pair, dat_int, dat_bool, dat_str] at hp
  refine L_fieldAddr rfl rfl fld129_7 ?_
  refine L_store rfl rfl (by first | (with_reducible repeat (first | exact Pick.here _ | apply Pick.there)); done | (repeat (first | exact Pick.here _ | apply Pick.there))) one48 rfl rfl ?_
  refine L_nil ?_
  refine W_seq ?_
  refine W_region ?_
  refine L_loadW rfl rfl (RdC.blk (by first | (with_reducible repeat (first | exact List.Mem.head _ | apply List.Mem.tail)); done | (repeat (first | exact List.Mem.head _ | apply List.Mem.tail)))) (by exact agg129) ?_
  refine L_storeW rfl rfl (by first | (with_reducible repeat (first | exact Pick.here _ | apply Pick.there)); done | (repeat (first | exact Pick.here _ | apply Pick.there))) (by exact agg129) (by rfl) (by first | exact allOne rfl | exact fun v hv => GT.one _ v hv | (simp [Value.oneCell', TL.hdr, Value.cells]; done)) ?_
  refine L_nil ?_
  obtain rfl := Option.some.inj hp
  refine W_conv (M' := treeH ((a0_7, y1x0) : Int × TL ByteArray) :: _) (fun w h => jnR (a := a0_7) (b := y1x0) (by first | (with_reducible repeat (first | exact Pick.here _ | apply Pick.there)); done | (repeat (first | exact Pick.here _ | apply Pick.there))) h) ?_
  refine W_conv (M' := treeH ((a0_6, (a0_7, y1x0)) : ByteArray × Int × TL ByteArray) :: _) (fun w h => jnR (a := a0_6) (b := (a0_7, y1x0)) (by first | (with_reducible repeat (first | exact Pick.here _ | apply Pick.there)); done | (repeat (first | exact Pick.here _ | apply Pick.there))) h) ?_
  refine W_conv (M' := treeH ((a0_5, (a0_6, (a0_7, y1x0))) : ByteArray × ByteArray × Int × TL ByteArray) :: _) (fun w h => jnR (a := a0_5) (b := (a0_6, (a0_7, y1x0))) (by first | (with_reducible repeat (first | exact Pick.here _ | apply Pick.there)); done | (repeat (first | exact Pick.here _ | apply Pick.there))) h) ?_
  refine W_conv (M' := treeH ((a0_4, (a0_5, (a0_6, (a0_7, y1x0)))) : ByteArray × ByteArray × ByteArray × Int × TL ByteArray) :: _) (fun w h => jnR (a := a0_4) (b := (a0_5, (a0_6, (a0_7, y1x0)))) (by first | (with_reducible repeat (first | exact Pick.here _ | apply Pick.there)); done | (repeat (first | exact Pick.here _ | apply Pick.there))) h) ?_
  refine W_conv (M' := treeH ((a0_3, (a0_4, (a0_5, (a0_6, (a0_7, y1x0))))) : Int × ByteArray × ByteArray × ByteArray × Int × TL ByteArray) :: _) (fun w h => jnR (a := a0_3) (b := (a0_4, (a0_5, (a0_6, (a0_7, y1x0))))) (by first | (with_reducible repeat (first | exact Pick.here _ | apply Pick.there)); done | (repeat (first | exact Pick.here _ | apply Pick.there))) h) ?_
  refine W_conv (M' := treeH ((a0_2, (a0_3, (a0_4, (a0_5, (a0_6, (a0_7, y1x0)))))) : Int × Int × ByteArray × ByteArray × ByteArray × Int × TL ByteArray) :: _) (fun w h => jnR (a := a0_2) (b := (a0_3, (a0_4, (a0_5, (a0_6, (a0_7, y1x0)))))) (by first | (with_reducible repeat (first | exact Pick.here _ | apply Pick.there)); done | (repeat (first | exact Pick.here _ | apply Pick.there))) h) ?_
  refine W_conv (M' := treeH ((a0_1, (a0_2, (a0_3, (a0_4, (a0_5, (a0_6, (a0_7, y1x0))))))) : Int × Int × Int × ByteArray × ByteArray × ByteArray × Int × TL ByteArray) :: _) (fun w h => jnR (a := a0_1) (b := (a0_2, (a0_3, (a0_4, (a0_5, (a0_6, (a0_7, y1x0))))))) (by first | (with_reducible repeat (first | exact Pick.here _ | apply Pick.there)); done | (repeat (first | exact Pick.here _ | apply Pick.there))) h) ?_
  refine W_ret ?_
  refine res1 rfl (ResOK.cell rfl (by first | (with_reducible repeat (first | exact List.Mem.head _ | apply List.Mem.tail)); done | (repeat (first | exact List.Mem.head _ | apply List.Mem.tail))) (by exact agg129)) ⟨(a0_1, a0_2, a0_3, a0_4, a0_5, a0_6, a0_7, y1x0), rfl, rfl, rfl⟩ (MSub.cons (by first | (with_reducible repeat (first | exact Pick.here _ | apply Pick.there)); done | (repeat (first | exact Pick.here _ | apply Pick.there))) (MSub.nil _))

noncomputable def i_copyIds (a0 : List D_Id) : Option (List D_Id) :=
  Option.bind (appP ([] : List D_Id) a0) (fun y2 => some y2)

theorem i_copyIds_walk (w : World) (a0 : TL T_Id) (h0 : GT.rd w [] a0) (r : (List D_Id)) (hp : i_copyIds (GT.dat a0) = some r) : Spec Try.prog 233 [(TL.hdr a0)].toArray w [] (fun v M => ∃ (x0 : TL T_Id), v = (TL.hdr x0) ∧ GT.dat x0 = r ∧ M = [treeH x0]) := by
  refine Spec.intro Try.func233 rfl Try.ntmps233 rfl ?_
  unfold i_copyIds at hp
  try dsimp only [dat_pair, dat_int, dat_bool, dat_str] at hp
  refine W_seq ?_
  refine W_region ?_
  refine L_assign (v := (TL.hdr (TL.nil T_Id 0))) rfl rfl ?_
  refine L_nil ?_
  refine W_seq ?_
  refine W_region ?_
  refine L_move rfl rfl ?_
  refine L_conv (M' := treeH (TL.nil T_Id 0) :: _) (fun w h => addNilT _ h) ?_
  have ho := hp; clear hp; obtain ⟨y2, hy2, hp⟩ := bind_any ho; clear ho
  refine L_appT (X := (TL.nil T_Id 0)) (Y := a0) rfl rfl rfl el265 rfl rfl (by first | (with_reducible repeat (first | exact Pick.here _ | apply Pick.there)); done | (repeat (first | exact Pick.here _ | apply Pick.there))) (RdT.old h0) hy2 (by decide) (fun X1 hdX1 => ?_)
  subst hdX1
  refine L_assign rfl rfl ?_
  refine L_nil ?_
  obtain rfl := Option.some.inj hp
  refine W_ret ?_
  refine res1 rfl (ResOK.tmp rfl) ⟨X1, rfl, rfl, rfl⟩ (MSub.cons (by first | (with_reducible repeat (first | exact Pick.here _ | apply Pick.there)); done | (repeat (first | exact Pick.here _ | apply Pick.there))) (MSub.nil _))

noncomputable def i_copyInst (a0 : D_Inst) : Option D_Inst :=
  Option.bind (i_copyCmd (a0.2.2.2.2.1.1, a0.2.2.2.2.1.2.1, a0.2.2.2.2.1.2.2.1, a0.2.2.2.2.1.2.2.2.1, a0.2.2.2.2.1.2.2.2.2.1, a0.2.2.2.2.1.2.2.2.2.2.1, a0.2.2.2.2.1.2.2.2.2.2.2.1, a0.2.2.2.2.1.2.2.2.2.2.2.2)) (fun y1 => Option.bind (i_copyIds a0.2.2.2.2.2.2.1) (fun y2 => some ((a0.1.1, a0.1.2), a0.2.1, a0.2.2.1, a0.2.2.2.1, (y1.1, y1.2.1, y1.2.2.1, y1.2.2.2.1, y1.2.2.2.2.1, y1.2.2.2.2.2.1, y1.2.2.2.2.2.2.1, y1.2.2.2.2.2.2.2), a0.2.2.2.2.2.1, y2, a0.2.2.2.2.2.2.2)))

theorem i_copyInst_walk (w : World) (a0 : T_Inst) (h0 : GT.rd w [] a0) (r : D_Inst) (hp : i_copyInst (GT.dat a0) = some r) : Spec Try.prog 281 [.agg (GT.cells a0).toArray].toArray w [] (fun v M => ∃ (x0 : T_Inst), v = .agg (GT.cells x0).toArray ∧ GT.dat x0 = r ∧ M = [treeH x0]) := by
  obtain ⟨⟨a0_1, a0_2⟩, a0_3, a0_4, a0_5, ⟨a0_6, a0_7, a0_8, a0_9, a0_10, a0_11, a0_12, a0_13⟩, a0_14, a0_15, a0_16⟩ := a0
  change Spec _ _ ([Value.agg #[.int .i64 a0_1, .int .i64 a0_2, .int .i64 a0_3, .int .i64 a0_4, .int .i64 a0_5, .int .i64 a0_6, .int .i64 a0_7, .int .i64 a0_8, .string a0_9, .string a0_10, .string a0_11, .int .i64 a0_12, (TL.hdr a0_13), .int .i64 a0_14, (TL.hdr a0_15), .bool a0_16]] : List Value).toArray w [] _
  refine Spec.intro Try.func281 rfl Try.ntmps281 rfl ?_
  unfold i_copyInst at hp
  try dsimp only [dat_pair, dat_int, dat_bool, dat_str] at hp
  refine W_seq ?_
  refine W_region ?_
  refine L_box rfl rfl (fun bk1 => ?_)
  refine L_alloc rfl zero267 (fun bk2 => ?_)
  refine L_nil ?_
  refine W_seq ?_
  refine W_region ?_
  refine L_fieldAddr rfl rfl fld267_4 ?_
  refine L_loadW rfl rfl (RdC.seg (RdC.blk (by first | (with_reducible repeat (first | exact List.Mem.head _ | apply List.Mem.tail)); done | (repeat (first | exact List.Mem.head _ | apply List.Mem.tail)))) 5 8 rfl) (by exact agg129) ?_
  have ho := hp; clear hp; obtain ⟨y1, hy1, hp⟩ := bind_any ho; clear ho
  refine L_callR rfl fn320 rfl (by exact fun w hw => i_copyCmd_walk w (a0_6, a0_7, a0_8, a0_9, a0_10, a0_11, a0_12, a0_13) (RdT.now (RdT.pair RdT.int (RdT.pair RdT.int (RdT.pair RdT.int (RdT.pair RdT.str (RdT.pair RdT.str (RdT.pair RdT.str (RdT.pair RdT.int (RdT.old h0.2.2.2.2.1.2.2.2.2.2.2.2)))))))) hw) _ hy1) ?_
  rintro vy1 My1 ⟨y1x0, hvy1, hdy1, rfl⟩
  subst hvy1
  subst hdy1
  obtain ⟨y1x0_1, y1x0_2, y1x0_3, y1x0_4, y1x0_5, y1x0_6, y1x0_7, y1x0_8⟩ := y1x0
  simp only [cells_pair, cells_int, cells_bool, cells_str, cells_TL, List.cons_append, List.nil_append]
  try dsimp only [dat_pair, dat_int, dat_bool, dat_str] at hp
  refine L_conv (M' := treeH (y1x0_2, y1x0_3, y1x0_4, y1x0_5, y1x0_6, y1x0_7, y1x0_8) :: _) (fun w h => exR (a := y1x0_1) (by first | (with_reducible repeat (first | exact Pick.here _ | apply Pick.there)); done | (repeat (first | exact Pick.here _ | apply Pick.there))) h) ?_
  refine L_conv (M' := treeH (y1x0_3, y1x0_4, y1x0_5, y1x0_6, y1x0_7, y1x0_8) :: _) (fun w h => exR (a := y1x0_2) (by first | (with_reducible repeat (first | exact Pick.here _ | apply Pick.there)); done | (repeat (first | exact Pick.here _ | apply Pick.there))) h) ?_
  refine L_conv (M' := treeH (y1x0_4, y1x0_5, y1x0_6, y1x0_7, y1x0_8) :: _) (fun w h => exR (a := y1x0_3) (by first | (with_reducible repeat (first | exact Pick.here _ | apply Pick.there)); done | (repeat (first | exact Pick.here _ | apply Pick.there))) h) ?_
  refine L_conv (M' := treeH (y1x0_5, y1x0_6, y1x0_7, y1x0_8) :: _) (fun w h => exR (a := y1x0_4) (by first | (with_reducible repeat (first | exact Pick.here _ | apply Pick.there)); done | (repeat (first | exact Pick.here _ | apply Pick.there))) h) ?_
  refine L_conv (M' := treeH (y1x0_6, y1x0_7, y1x0_8) :: _) (fun w h => exR (a := y1x0_5) (by first | (with_reducible repeat (first | exact Pick.here _ | apply Pick.there)); done | (repeat (first | exact Pick.here _ | apply Pick.there))) h) ?_
  refine L_conv (M' := treeH (y1x0_7, y1x0_8) :: _) (fun w h => exR (a := y1x0_6) (by first | (with_reducible repeat (first | exact Pick.here _ | apply Pick.there)); done | (repeat (first | exact Pick.here _ | apply Pick.there))) h) ?_
  refine L_conv (M' := treeH y1x0_8 :: _) (fun w h => exR (a := y1x0_7) (by first | (with_reducible repeat (first | exact Pick.here _ | apply Pick.there)); done | (repeat (first | exact Pick.here _ | apply Pick.there))) h) ?_
  refine L_fieldAddr rfl rfl fld267_4 ?_
  refine L_storeA (fo := 5) rfl rfl (by first | (with_reducible repeat (first | exact Pick.here _ | apply Pick.there)); done | (repeat (first | exact Pick.here _ | apply Pick.there))) (by exact agg129) (Nat.le_of_ble_eq_true rfl) (by first | exact allOne rfl | exact fun v hv => GT.one _ v hv | (simp [Value.oneCell', TL.hdr, Value.cells]; done)) rfl ?_
  refine L_nil ?_
  refine W_seq ?_
  refine W_region ?_
  refine L_fieldAddr rfl rfl fld267_6 ?_
  refine L_load rfl rfl (RdC.blk (by first | (with_reducible repeat (first | exact List.Mem.head _ | apply List.Mem.tail)); done | (repeat (first | exact List.Mem.head _ | apply List.Mem.tail)))) one265 rfl ?_
  have ho := hp; clear hp; obtain ⟨y2, hy2, hp⟩ := bind_any ho; clear ho
  refine L_callR rfl fn233 rfl (by exact fun w hw => i_copyIds_walk w a0_15 (RdT.now (RdT.old h0.2.2.2.2.2.2.1) hw) _ hy2) ?_
  rintro vy2 My2 ⟨y2x0, hvy2, hdy2, rfl⟩
  subst hvy2
  subst hdy2
  simp only [cells_pair, cells_int, cells_bool, cells_str, cells_TL, List.cons_append, List.nil_append]
  try dsimp only [dat_pair, dat_int, dat_bool, dat_str] at hp
  refine L_fieldAddr rfl rfl fld267_6 ?_
  refine L_store rfl rfl (by first | (with_reducible repeat (first | exact Pick.here _ | apply Pick.there)); done | (repeat (first | exact Pick.here _ | apply Pick.there))) one265 rfl rfl ?_
  refine L_nil ?_
  refine W_seq ?_
  refine W_region ?_
  refine L_loadW rfl rfl (RdC.blk (by first | (with_reducible repeat (first | exact List.Mem.head _ | apply List.Mem.tail)); done | (repeat (first | exact List.Mem.head _ | apply List.Mem.tail)))) (by exact agg267) ?_
  refine L_storeW rfl rfl (by first | (with_reducible repeat (first | exact Pick.here _ | apply Pick.there)); done | (repeat (first | exact Pick.here _ | apply Pick.there))) (by exact agg267) (by rfl) (by first | exact allOne rfl | exact fun v hv => GT.one _ v hv | (simp [Value.oneCell', TL.hdr, Value.cells]; done)) ?_
  refine L_nil ?_
  obtain rfl := Option.some.inj hp
  refine W_conv (M' := treeH ((y1x0_7, y1x0_8) : Int × TL ByteArray) :: _) (fun w h => jnR (a := y1x0_7) (b := y1x0_8) (by first | (with_reducible repeat (first | exact Pick.here _ | apply Pick.there)); done | (repeat (first | exact Pick.here _ | apply Pick.there))) h) ?_
  refine W_conv (M' := treeH ((y1x0_6, (y1x0_7, y1x0_8)) : ByteArray × Int × TL ByteArray) :: _) (fun w h => jnR (a := y1x0_6) (b := (y1x0_7, y1x0_8)) (by first | (with_reducible repeat (first | exact Pick.here _ | apply Pick.there)); done | (repeat (first | exact Pick.here _ | apply Pick.there))) h) ?_
  refine W_conv (M' := treeH ((y1x0_5, (y1x0_6, (y1x0_7, y1x0_8))) : ByteArray × ByteArray × Int × TL ByteArray) :: _) (fun w h => jnR (a := y1x0_5) (b := (y1x0_6, (y1x0_7, y1x0_8))) (by first | (with_reducible repeat (first | exact Pick.here _ | apply Pick.there)); done | (repeat (first | exact Pick.here _ | apply Pick.there))) h) ?_
  refine W_conv (M' := treeH ((y1x0_4, (y1x0_5, (y1x0_6, (y1x0_7, y1x0_8)))) : ByteArray × ByteArray × ByteArray × Int × TL ByteArray) :: _) (fun w h => jnR (a := y1x0_4) (b := (y1x0_5, (y1x0_6, (y1x0_7, y1x0_8)))) (by first | (with_reducible repeat (first | exact Pick.here _ | apply Pick.there)); done | (repeat (first | exact Pick.here _ | apply Pick.there))) h) ?_
  refine W_conv (M' := treeH ((y1x0_3, (y1x0_4, (y1x0_5, (y1x0_6, (y1x0_7, y1x0_8))))) : Int × ByteArray × ByteArray × ByteArray × Int × TL ByteArray) :: _) (fun w h => jnR (a := y1x0_3) (b := (y1x0_4, (y1x0_5, (y1x0_6, (y1x0_7, y1x0_8))))) (by first | (with_reducible repeat (first | exact Pick.here _ | apply Pick.there)); done | (repeat (first | exact Pick.here _ | apply Pick.there))) h) ?_
  refine W_conv (M' := treeH ((y1x0_2, (y1x0_3, (y1x0_4, (y1x0_5, (y1x0_6, (y1x0_7, y1x0_8)))))) : Int × Int × ByteArray × ByteArray × ByteArray × Int × TL ByteArray) :: _) (fun w h => jnR (a := y1x0_2) (b := (y1x0_3, (y1x0_4, (y1x0_5, (y1x0_6, (y1x0_7, y1x0_8)))))) (by first | (with_reducible repeat (first | exact Pick.here _ | apply Pick.there)); done | (repeat (first | exact Pick.here _ | apply Pick.there))) h) ?_
  refine W_conv (M' := treeH ((y1x0_1, (y1x0_2, (y1x0_3, (y1x0_4, (y1x0_5, (y1x0_6, (y1x0_7, y1x0_8))))))) : Int × Int × Int × ByteArray × ByteArray × ByteArray × Int × TL ByteArray) :: _) (fun w h => jnR (a := y1x0_1) (b := (y1x0_2, (y1x0_3, (y1x0_4, (y1x0_5, (y1x0_6, (y1x0_7, y1x0_8))))))) (by first | (with_reducible repeat (first | exact Pick.here _ | apply Pick.there)); done | (repeat (first | exact Pick.here _ | apply Pick.there))) h) ?_
  refine W_conv (M' := treeH ((y2x0, a0_16) : (TL T_Id) × Bool) :: _) (fun w h => jnL (a := y2x0) (b := a0_16) (by first | (with_reducible repeat (first | exact Pick.here _ | apply Pick.there)); done | (repeat (first | exact Pick.here _ | apply Pick.there))) h) ?_
  refine W_conv (M' := treeH ((a0_14, (y2x0, a0_16)) : Int × (TL T_Id) × Bool) :: _) (fun w h => jnR (a := a0_14) (b := (y2x0, a0_16)) (by first | (with_reducible repeat (first | exact Pick.here _ | apply Pick.there)); done | (repeat (first | exact Pick.here _ | apply Pick.there))) h) ?_
  refine W_conv (M' := treeH (((y1x0_1, (y1x0_2, (y1x0_3, (y1x0_4, (y1x0_5, (y1x0_6, (y1x0_7, y1x0_8))))))), (a0_14, (y2x0, a0_16))) : T_Cmd × Int × (TL T_Id) × Bool) :: _) (fun w h => jn2 (a := (y1x0_1, (y1x0_2, (y1x0_3, (y1x0_4, (y1x0_5, (y1x0_6, (y1x0_7, y1x0_8)))))))) (b := (a0_14, (y2x0, a0_16))) (by first | (with_reducible repeat (first | exact Pick.here _ | apply Pick.there)); done | (repeat (first | exact Pick.here _ | apply Pick.there))) (by first | (with_reducible repeat (first | exact Pick.here _ | apply Pick.there)); done | (repeat (first | exact Pick.here _ | apply Pick.there))) h) ?_
  refine W_conv (M' := treeH ((a0_5, ((y1x0_1, (y1x0_2, (y1x0_3, (y1x0_4, (y1x0_5, (y1x0_6, (y1x0_7, y1x0_8))))))), (a0_14, (y2x0, a0_16)))) : Int × T_Cmd × Int × (TL T_Id) × Bool) :: _) (fun w h => jnR (a := a0_5) (b := ((y1x0_1, (y1x0_2, (y1x0_3, (y1x0_4, (y1x0_5, (y1x0_6, (y1x0_7, y1x0_8))))))), (a0_14, (y2x0, a0_16)))) (by first | (with_reducible repeat (first | exact Pick.here _ | apply Pick.there)); done | (repeat (first | exact Pick.here _ | apply Pick.there))) h) ?_
  refine W_conv (M' := treeH ((a0_4, (a0_5, ((y1x0_1, (y1x0_2, (y1x0_3, (y1x0_4, (y1x0_5, (y1x0_6, (y1x0_7, y1x0_8))))))), (a0_14, (y2x0, a0_16))))) : Int × Int × T_Cmd × Int × (TL T_Id) × Bool) :: _) (fun w h => jnR (a := a0_4) (b := (a0_5, ((y1x0_1, (y1x0_2, (y1x0_3, (y1x0_4, (y1x0_5, (y1x0_6, (y1x0_7, y1x0_8))))))), (a0_14, (y2x0, a0_16))))) (by first | (with_reducible repeat (first | exact Pick.here _ | apply Pick.there)); done | (repeat (first | exact Pick.here _ | apply Pick.there))) h) ?_
  refine W_conv (M' := treeH ((a0_3, (a0_4, (a0_5, ((y1x0_1, (y1x0_2, (y1x0_3, (y1x0_4, (y1x0_5, (y1x0_6, (y1x0_7, y1x0_8))))))), (a0_14, (y2x0, a0_16)))))) : Int × Int × Int × T_Cmd × Int × (TL T_Id) × Bool) :: _) (fun w h => jnR (a := a0_3) (b := (a0_4, (a0_5, ((y1x0_1, (y1x0_2, (y1x0_3, (y1x0_4, (y1x0_5, (y1x0_6, (y1x0_7, y1x0_8))))))), (a0_14, (y2x0, a0_16)))))) (by first | (with_reducible repeat (first | exact Pick.here _ | apply Pick.there)); done | (repeat (first | exact Pick.here _ | apply Pick.there))) h) ?_
  refine W_conv (M' := treeH (((a0_1, a0_2), (a0_3, (a0_4, (a0_5, ((y1x0_1, (y1x0_2, (y1x0_3, (y1x0_4, (y1x0_5, (y1x0_6, (y1x0_7, y1x0_8))))))), (a0_14, (y2x0, a0_16))))))) : T_Id × Int × Int × Int × T_Cmd × Int × (TL T_Id) × Bool) :: _) (fun w h => jnR (a := (a0_1, a0_2)) (b := (a0_3, (a0_4, (a0_5, ((y1x0_1, (y1x0_2, (y1x0_3, (y1x0_4, (y1x0_5, (y1x0_6, (y1x0_7, y1x0_8))))))), (a0_14, (y2x0, a0_16))))))) (by first | (with_reducible repeat (first | exact Pick.here _ | apply Pick.there)); done | (repeat (first | exact Pick.here _ | apply Pick.there))) h) ?_
  refine W_ret ?_
  refine res1 rfl (ResOK.cell rfl (by first | (with_reducible repeat (first | exact List.Mem.head _ | apply List.Mem.tail)); done | (repeat (first | exact List.Mem.head _ | apply List.Mem.tail))) (by exact agg267)) ⟨((a0_1, a0_2), a0_3, a0_4, a0_5, (y1x0_1, y1x0_2, y1x0_3, y1x0_4, y1x0_5, y1x0_6, y1x0_7, y1x0_8), a0_14, y2x0, a0_16), rfl, rfl, rfl⟩ (MSub.cons (by first | (with_reducible repeat (first | exact Pick.here _ | apply Pick.there)); done | (repeat (first | exact Pick.here _ | apply Pick.there))) (MSub.nil _))

noncomputable def i_copyInsts (a0 : List D_Inst) : Option (List D_Inst) :=
  whileP (fun s1 : (List D_Inst) × Int => cond (decide (s1.2 < (a0.length : Int))) (Option.bind (idx a0 s1.2) (fun y3 => Option.bind (i_copyInst ((y3.1.1, y3.1.2), y3.2.1, y3.2.2.1, y3.2.2.2.1, (y3.2.2.2.2.1.1, y3.2.2.2.2.1.2.1, y3.2.2.2.2.1.2.2.1, y3.2.2.2.2.1.2.2.2.1, y3.2.2.2.2.1.2.2.2.2.1, y3.2.2.2.2.1.2.2.2.2.2.1, y3.2.2.2.2.1.2.2.2.2.2.2.1, y3.2.2.2.2.1.2.2.2.2.2.2.2), y3.2.2.2.2.2.1, y3.2.2.2.2.2.2.1, y3.2.2.2.2.2.2.2)) (fun y4 => Option.bind (appP s1.1 [((y4.1.1, y4.1.2), y4.2.1, y4.2.2.1, y4.2.2.2.1, (y4.2.2.2.2.1.1, y4.2.2.2.2.1.2.1, y4.2.2.2.2.1.2.2.1, y4.2.2.2.2.1.2.2.2.1, y4.2.2.2.2.1.2.2.2.2.1, y4.2.2.2.2.1.2.2.2.2.2.1, y4.2.2.2.2.1.2.2.2.2.2.2.1, y4.2.2.2.2.1.2.2.2.2.2.2.2), y4.2.2.2.2.2.1, y4.2.2.2.2.2.2.1, y4.2.2.2.2.2.2.2)]) (fun y6 => some (.inl ((y6, IntKind.wrap .i64 (s1.2 + 1)))))))) (Option.map .inr (some s1.1))) (([] : List D_Inst), 0)

theorem i_copyInsts_walk (w : World) (a0 : TL T_Inst) (h0 : GT.rd w [] a0) (r : (List D_Inst)) (hp : i_copyInsts (GT.dat a0) = some r) : Spec Try.prog 232 [(TL.hdr a0)].toArray w [] (fun v M => ∃ (x0 : TL T_Inst), v = (TL.hdr x0) ∧ GT.dat x0 = r ∧ M = [treeH x0]) := by
  refine Spec.intro Try.func232 rfl Try.ntmps232 rfl ?_
  unfold i_copyInsts at hp
  try dsimp only [dat_pair, dat_int, dat_bool, dat_str] at hp
  refine W_seq ?_
  refine W_region ?_
  refine L_assign (v := (TL.hdr (TL.nil T_Inst 0))) rfl rfl ?_
  refine L_nil ?_
  refine W_seq ?_
  refine W_region ?_
  refine L_assign (v := (TL.hdr (TL.nil T_Inst 0))) rfl rfl ?_
  refine L_nil ?_
  refine W_seq ?_
  refine W_seq ?_
  refine W_region ?_
  refine L_move rfl rfl ?_
  refine L_lenP (X := a0) rfl rfl el114 ?_
  refine L_move rfl rfl ?_
  refine L_nil ?_
  refine W_block ?_
  refine W_conv (M' := treeH (TL.nil T_Inst 0) :: _) (fun w h => addNilT (τ := T_Inst) 0 h) ?_
  refine W_while (σ := (TL T_Inst) × Int) GT.dat (fun ((v1_0, v1_1) : (TL T_Inst) × Int) => [(3, (TL.hdr v1_0)), (8, .int .i64 v1_1)]) (fun ((v1_0, v1_1) : (TL T_Inst) × Int) => [treeH v1_0]) [(6, _), (7, _)] [] ((TL.nil T_Inst 0), 0) hp (Sub.cons rfl (Sub.cons rfl (Sub.cons rfl (Sub.cons rfl (Sub.nil _))))) (MSub.cons (by first | (with_reducible repeat (first | exact Pick.here _ | apply Pick.there)); done | (repeat (first | exact Pick.here _ | apply Pick.there))) (MSub.nil _)) ?_
  clear hp
  rintro ⟨v1_0, v1_1⟩ x1 hp hx1
  try dsimp only [dat_pair, dat_int, dat_bool, dat_str] at hp
  refine W_weaken (l' := [(3, _), (6, _), (7, _), (8, _)]) (Sub.cons rfl (Sub.cons rfl (Sub.cons rfl (Sub.cons rfl (Sub.nil _))))) (M' := [_]) (MSub.cons (by first | (with_reducible repeat (first | exact Pick.here _ | apply Pick.there)); done | (repeat (first | exact Pick.here _ | apply Pick.there))) (MSub.nil _)) ?_
  refine W_seq ?_
  refine W_region ?_
  refine L_binV rfl rfl rfl bv_lss ?_
  refine L_nil ?_
  refine W_seq ?_
  refine W_weaken (l' := [(3, _), (6, _), (7, _), (8, _), (9, _)]) (Sub.cons rfl (Sub.cons rfl (Sub.cons rfl (Sub.cons rfl (Sub.cons rfl (Sub.nil _)))))) (MSub.refl _) ?_
  refine W_cond rfl (fun hc2 => ?_) (fun hc2 => ?_)
  · skip
    replace hp := cond_t hc2 hp
    refine W_skip ?_
    refine W_seq ?_
    refine W_block ?_
    refine W_seq ?_
    refine W_region ?_
    have ho := hp; clear hp; obtain ⟨u3, hy3, hp⟩ := idx_bind ho; clear ho
    obtain ⟨⟨u3_1, u3_2⟩, u3_3, u3_4, u3_5, ⟨u3_6, u3_7, u3_8, u3_9, u3_10, u3_11, u3_12, u3_13⟩, u3_14, u3_15, u3_16⟩ := u3
    refine L_idxA (X := a0) rfl rfl rfl el114 (RdT.old h0) hy3 ?_
    refine L_loadW rfl rfl (RdT.at (RdT.old h0) (hy3).2) (by exact agg267) ?_
    refine L_alloc rfl zero267 (fun bk5 => ?_)
    refine L_storeW rfl rfl (by first | (with_reducible repeat (first | exact Pick.here _ | apply Pick.there)); done | (repeat (first | exact Pick.here _ | apply Pick.there))) (by exact agg267) (by rfl) (by first | exact allOne rfl | exact fun v hv => GT.one _ v hv | (simp [Value.oneCell', TL.hdr, Value.cells]; done)) ?_
    refine L_nil ?_
    refine W_region ?_
    refine L_move rfl rfl ?_
    refine L_loadW rfl rfl (RdC.blk (by first | (with_reducible repeat (first | exact List.Mem.head _ | apply List.Mem.tail)); done | (repeat (first | exact List.Mem.head _ | apply List.Mem.tail)))) (by exact agg267) ?_
    have ho := hp; clear hp; obtain ⟨y4, hy4, hp⟩ := bind_any ho; clear ho
    refine L_callR rfl fn281 rfl (by exact fun w hw => i_copyInst_walk w ((u3_1, u3_2), u3_3, u3_4, u3_5, (u3_6, u3_7, u3_8, u3_9, u3_10, u3_11, u3_12, u3_13), u3_14, u3_15, u3_16) (RdT.now (RdT.pair (RdT.pair RdT.int RdT.int) (RdT.pair RdT.int (RdT.pair RdT.int (RdT.pair RdT.int (RdT.pair (RdT.pair RdT.int (RdT.pair RdT.int (RdT.pair RdT.int (RdT.pair RdT.str (RdT.pair RdT.str (RdT.pair RdT.str (RdT.pair RdT.int (RdT.snd (RdT.snd (RdT.snd (RdT.snd (RdT.snd (RdT.snd (RdT.snd (RdT.fst (RdT.snd (RdT.snd (RdT.snd (RdT.snd (RdT.of (RdT.old h0) (hy3).2)))))))))))))))))))) (RdT.pair RdT.int (RdT.pair (RdT.fst (RdT.snd (RdT.snd (RdT.snd (RdT.snd (RdT.snd (RdT.snd (RdT.of (RdT.old h0) (hy3).2)))))))) RdT.bool))))))) hw) _ hy4) ?_
    rintro vy4 My4 ⟨y4x0, hvy4, hdy4, rfl⟩
    subst hvy4
    subst hdy4
    obtain ⟨⟨y4x0_1, y4x0_2⟩, y4x0_3, y4x0_4, y4x0_5, ⟨y4x0_6, y4x0_7, y4x0_8, y4x0_9, y4x0_10, y4x0_11, y4x0_12, y4x0_13⟩, y4x0_14, y4x0_15, y4x0_16⟩ := y4x0
    simp only [cells_pair, cells_int, cells_bool, cells_str, cells_TL, List.cons_append, List.nil_append]
    try dsimp only [dat_pair, dat_int, dat_bool, dat_str] at hp
    refine L_conv (M' := treeH (y4x0_3, y4x0_4, y4x0_5, (y4x0_6, y4x0_7, y4x0_8, y4x0_9, y4x0_10, y4x0_11, y4x0_12, y4x0_13), y4x0_14, y4x0_15, y4x0_16) :: _) (fun w h => exR (a := (y4x0_1, y4x0_2)) (by first | (with_reducible repeat (first | exact Pick.here _ | apply Pick.there)); done | (repeat (first | exact Pick.here _ | apply Pick.there))) h) ?_
    refine L_conv (M' := treeH (y4x0_4, y4x0_5, (y4x0_6, y4x0_7, y4x0_8, y4x0_9, y4x0_10, y4x0_11, y4x0_12, y4x0_13), y4x0_14, y4x0_15, y4x0_16) :: _) (fun w h => exR (a := y4x0_3) (by first | (with_reducible repeat (first | exact Pick.here _ | apply Pick.there)); done | (repeat (first | exact Pick.here _ | apply Pick.there))) h) ?_
    refine L_conv (M' := treeH (y4x0_5, (y4x0_6, y4x0_7, y4x0_8, y4x0_9, y4x0_10, y4x0_11, y4x0_12, y4x0_13), y4x0_14, y4x0_15, y4x0_16) :: _) (fun w h => exR (a := y4x0_4) (by first | (with_reducible repeat (first | exact Pick.here _ | apply Pick.there)); done | (repeat (first | exact Pick.here _ | apply Pick.there))) h) ?_
    refine L_conv (M' := treeH ((y4x0_6, y4x0_7, y4x0_8, y4x0_9, y4x0_10, y4x0_11, y4x0_12, y4x0_13), y4x0_14, y4x0_15, y4x0_16) :: _) (fun w h => exR (a := y4x0_5) (by first | (with_reducible repeat (first | exact Pick.here _ | apply Pick.there)); done | (repeat (first | exact Pick.here _ | apply Pick.there))) h) ?_
    refine L_conv (M' := treeH (y4x0_6, y4x0_7, y4x0_8, y4x0_9, y4x0_10, y4x0_11, y4x0_12, y4x0_13) :: treeH (y4x0_14, y4x0_15, y4x0_16) :: _) (fun w h => ex2 (by first | (with_reducible repeat (first | exact Pick.here _ | apply Pick.there)); done | (repeat (first | exact Pick.here _ | apply Pick.there))) h) ?_
    refine L_conv (M' := treeH (y4x0_7, y4x0_8, y4x0_9, y4x0_10, y4x0_11, y4x0_12, y4x0_13) :: _) (fun w h => exR (a := y4x0_6) (by first | (with_reducible repeat (first | exact Pick.here _ | apply Pick.there)); done | (repeat (first | exact Pick.here _ | apply Pick.there))) h) ?_
    refine L_conv (M' := treeH (y4x0_8, y4x0_9, y4x0_10, y4x0_11, y4x0_12, y4x0_13) :: _) (fun w h => exR (a := y4x0_7) (by first | (with_reducible repeat (first | exact Pick.here _ | apply Pick.there)); done | (repeat (first | exact Pick.here _ | apply Pick.there))) h) ?_
    refine L_conv (M' := treeH (y4x0_9, y4x0_10, y4x0_11, y4x0_12, y4x0_13) :: _) (fun w h => exR (a := y4x0_8) (by first | (with_reducible repeat (first | exact Pick.here _ | apply Pick.there)); done | (repeat (first | exact Pick.here _ | apply Pick.there))) h) ?_
    refine L_conv (M' := treeH (y4x0_10, y4x0_11, y4x0_12, y4x0_13) :: _) (fun w h => exR (a := y4x0_9) (by first | (with_reducible repeat (first | exact Pick.here _ | apply Pick.there)); done | (repeat (first | exact Pick.here _ | apply Pick.there))) h) ?_
    refine L_conv (M' := treeH (y4x0_11, y4x0_12, y4x0_13) :: _) (fun w h => exR (a := y4x0_10) (by first | (with_reducible repeat (first | exact Pick.here _ | apply Pick.there)); done | (repeat (first | exact Pick.here _ | apply Pick.there))) h) ?_
    refine L_conv (M' := treeH (y4x0_12, y4x0_13) :: _) (fun w h => exR (a := y4x0_11) (by first | (with_reducible repeat (first | exact Pick.here _ | apply Pick.there)); done | (repeat (first | exact Pick.here _ | apply Pick.there))) h) ?_
    refine L_conv (M' := treeH y4x0_13 :: _) (fun w h => exR (a := y4x0_12) (by first | (with_reducible repeat (first | exact Pick.here _ | apply Pick.there)); done | (repeat (first | exact Pick.here _ | apply Pick.there))) h) ?_
    refine L_conv (M' := treeH (y4x0_15, y4x0_16) :: _) (fun w h => exR (a := y4x0_14) (by first | (with_reducible repeat (first | exact Pick.here _ | apply Pick.there)); done | (repeat (first | exact Pick.here _ | apply Pick.there))) h) ?_
    refine L_conv (M' := treeH y4x0_15 :: _) (fun w h => exL (b := y4x0_16) (by first | (with_reducible repeat (first | exact Pick.here _ | apply Pick.there)); done | (repeat (first | exact Pick.here _ | apply Pick.there))) h) ?_
    refine L_buildSlice1 rfl rfl el114 rfl (by decide) (by decide) rfl (fun bb15 => ?_)
    have ho := hp; clear hp; obtain ⟨y6, hy6, hp⟩ := bind_any ho; clear ho
    refine L_conv (M' := treeH ((y4x0_12, y4x0_13) : Int × TL ByteArray) :: _) (fun w h => jnR (a := y4x0_12) (b := y4x0_13) (by first | (with_reducible repeat (first | exact Pick.here _ | apply Pick.there)); done | (repeat (first | exact Pick.here _ | apply Pick.there))) h) ?_
    refine L_conv (M' := treeH ((y4x0_11, (y4x0_12, y4x0_13)) : ByteArray × Int × TL ByteArray) :: _) (fun w h => jnR (a := y4x0_11) (b := (y4x0_12, y4x0_13)) (by first | (with_reducible repeat (first | exact Pick.here _ | apply Pick.there)); done | (repeat (first | exact Pick.here _ | apply Pick.there))) h) ?_
    refine L_conv (M' := treeH ((y4x0_10, (y4x0_11, (y4x0_12, y4x0_13))) : ByteArray × ByteArray × Int × TL ByteArray) :: _) (fun w h => jnR (a := y4x0_10) (b := (y4x0_11, (y4x0_12, y4x0_13))) (by first | (with_reducible repeat (first | exact Pick.here _ | apply Pick.there)); done | (repeat (first | exact Pick.here _ | apply Pick.there))) h) ?_
    refine L_conv (M' := treeH ((y4x0_9, (y4x0_10, (y4x0_11, (y4x0_12, y4x0_13)))) : ByteArray × ByteArray × ByteArray × Int × TL ByteArray) :: _) (fun w h => jnR (a := y4x0_9) (b := (y4x0_10, (y4x0_11, (y4x0_12, y4x0_13)))) (by first | (with_reducible repeat (first | exact Pick.here _ | apply Pick.there)); done | (repeat (first | exact Pick.here _ | apply Pick.there))) h) ?_
    refine L_conv (M' := treeH ((y4x0_8, (y4x0_9, (y4x0_10, (y4x0_11, (y4x0_12, y4x0_13))))) : Int × ByteArray × ByteArray × ByteArray × Int × TL ByteArray) :: _) (fun w h => jnR (a := y4x0_8) (b := (y4x0_9, (y4x0_10, (y4x0_11, (y4x0_12, y4x0_13))))) (by first | (with_reducible repeat (first | exact Pick.here _ | apply Pick.there)); done | (repeat (first | exact Pick.here _ | apply Pick.there))) h) ?_
    refine L_conv (M' := treeH ((y4x0_7, (y4x0_8, (y4x0_9, (y4x0_10, (y4x0_11, (y4x0_12, y4x0_13)))))) : Int × Int × ByteArray × ByteArray × ByteArray × Int × TL ByteArray) :: _) (fun w h => jnR (a := y4x0_7) (b := (y4x0_8, (y4x0_9, (y4x0_10, (y4x0_11, (y4x0_12, y4x0_13)))))) (by first | (with_reducible repeat (first | exact Pick.here _ | apply Pick.there)); done | (repeat (first | exact Pick.here _ | apply Pick.there))) h) ?_
    refine L_conv (M' := treeH ((y4x0_6, (y4x0_7, (y4x0_8, (y4x0_9, (y4x0_10, (y4x0_11, (y4x0_12, y4x0_13))))))) : Int × Int × Int × ByteArray × ByteArray × ByteArray × Int × TL ByteArray) :: _) (fun w h => jnR (a := y4x0_6) (b := (y4x0_7, (y4x0_8, (y4x0_9, (y4x0_10, (y4x0_11, (y4x0_12, y4x0_13))))))) (by first | (with_reducible repeat (first | exact Pick.here _ | apply Pick.there)); done | (repeat (first | exact Pick.here _ | apply Pick.there))) h) ?_
    refine L_conv (M' := treeH ((y4x0_15, y4x0_16) : (TL T_Id) × Bool) :: _) (fun w h => jnL (a := y4x0_15) (b := y4x0_16) (by first | (with_reducible repeat (first | exact Pick.here _ | apply Pick.there)); done | (repeat (first | exact Pick.here _ | apply Pick.there))) h) ?_
    refine L_conv (M' := treeH ((y4x0_14, (y4x0_15, y4x0_16)) : Int × (TL T_Id) × Bool) :: _) (fun w h => jnR (a := y4x0_14) (b := (y4x0_15, y4x0_16)) (by first | (with_reducible repeat (first | exact Pick.here _ | apply Pick.there)); done | (repeat (first | exact Pick.here _ | apply Pick.there))) h) ?_
    refine L_conv (M' := treeH (((y4x0_6, (y4x0_7, (y4x0_8, (y4x0_9, (y4x0_10, (y4x0_11, (y4x0_12, y4x0_13))))))), (y4x0_14, (y4x0_15, y4x0_16))) : T_Cmd × Int × (TL T_Id) × Bool) :: _) (fun w h => jn2 (a := (y4x0_6, (y4x0_7, (y4x0_8, (y4x0_9, (y4x0_10, (y4x0_11, (y4x0_12, y4x0_13)))))))) (b := (y4x0_14, (y4x0_15, y4x0_16))) (by first | (with_reducible repeat (first | exact Pick.here _ | apply Pick.there)); done | (repeat (first | exact Pick.here _ | apply Pick.there))) (by first | (with_reducible repeat (first | exact Pick.here _ | apply Pick.there)); done | (repeat (first | exact Pick.here _ | apply Pick.there))) h) ?_
    refine L_conv (M' := treeH ((y4x0_5, ((y4x0_6, (y4x0_7, (y4x0_8, (y4x0_9, (y4x0_10, (y4x0_11, (y4x0_12, y4x0_13))))))), (y4x0_14, (y4x0_15, y4x0_16)))) : Int × T_Cmd × Int × (TL T_Id) × Bool) :: _) (fun w h => jnR (a := y4x0_5) (b := ((y4x0_6, (y4x0_7, (y4x0_8, (y4x0_9, (y4x0_10, (y4x0_11, (y4x0_12, y4x0_13))))))), (y4x0_14, (y4x0_15, y4x0_16)))) (by first | (with_reducible repeat (first | exact Pick.here _ | apply Pick.there)); done | (repeat (first | exact Pick.here _ | apply Pick.there))) h) ?_
    refine L_conv (M' := treeH ((y4x0_4, (y4x0_5, ((y4x0_6, (y4x0_7, (y4x0_8, (y4x0_9, (y4x0_10, (y4x0_11, (y4x0_12, y4x0_13))))))), (y4x0_14, (y4x0_15, y4x0_16))))) : Int × Int × T_Cmd × Int × (TL T_Id) × Bool) :: _) (fun w h => jnR (a := y4x0_4) (b := (y4x0_5, ((y4x0_6, (y4x0_7, (y4x0_8, (y4x0_9, (y4x0_10, (y4x0_11, (y4x0_12, y4x0_13))))))), (y4x0_14, (y4x0_15, y4x0_16))))) (by first | (with_reducible repeat (first | exact Pick.here _ | apply Pick.there)); done | (repeat (first | exact Pick.here _ | apply Pick.there))) h) ?_
    refine L_conv (M' := treeH ((y4x0_3, (y4x0_4, (y4x0_5, ((y4x0_6, (y4x0_7, (y4x0_8, (y4x0_9, (y4x0_10, (y4x0_11, (y4x0_12, y4x0_13))))))), (y4x0_14, (y4x0_15, y4x0_16)))))) : Int × Int × Int × T_Cmd × Int × (TL T_Id) × Bool) :: _) (fun w h => jnR (a := y4x0_3) (b := (y4x0_4, (y4x0_5, ((y4x0_6, (y4x0_7, (y4x0_8, (y4x0_9, (y4x0_10, (y4x0_11, (y4x0_12, y4x0_13))))))), (y4x0_14, (y4x0_15, y4x0_16)))))) (by first | (with_reducible repeat (first | exact Pick.here _ | apply Pick.there)); done | (repeat (first | exact Pick.here _ | apply Pick.there))) h) ?_
    refine L_conv (M' := treeH (((y4x0_1, y4x0_2), (y4x0_3, (y4x0_4, (y4x0_5, ((y4x0_6, (y4x0_7, (y4x0_8, (y4x0_9, (y4x0_10, (y4x0_11, (y4x0_12, y4x0_13))))))), (y4x0_14, (y4x0_15, y4x0_16))))))) : T_Id × Int × Int × Int × T_Cmd × Int × (TL T_Id) × Bool) :: _) (fun w h => jnR (a := (y4x0_1, y4x0_2)) (b := (y4x0_3, (y4x0_4, (y4x0_5, ((y4x0_6, (y4x0_7, (y4x0_8, (y4x0_9, (y4x0_10, (y4x0_11, (y4x0_12, y4x0_13))))))), (y4x0_14, (y4x0_15, y4x0_16))))))) (by first | (with_reducible repeat (first | exact Pick.here _ | apply Pick.there)); done | (repeat (first | exact Pick.here _ | apply Pick.there))) h) ?_
    refine L_app1 (X := v1_0) (((y4x0_1, y4x0_2), y4x0_3, y4x0_4, y4x0_5, (y4x0_6, y4x0_7, y4x0_8, y4x0_9, y4x0_10, y4x0_11, y4x0_12, y4x0_13), y4x0_14, y4x0_15, y4x0_16) : T_Inst) rfl rfl rfl el114 rfl rfl (by first | (with_reducible repeat (first | exact Pick.here _ | apply Pick.there)); done | (repeat (first | exact Pick.here _ | apply Pick.there))) (by first | (with_reducible repeat (first | exact List.Mem.head _ | apply List.Mem.tail)); done | (repeat (first | exact List.Mem.head _ | apply List.Mem.tail))) (by first | (with_reducible repeat (first | exact Pick.here _ | apply Pick.there)); done | (repeat (first | exact Pick.here _ | apply Pick.there))) hy6 (by decide) (fun X5 hdX5 => ?_)
    subst hdX5
    refine L_assign rfl rfl ?_
    refine L_nil ?_
    refine W_region ?_
    refine L_binV rfl rfl rfl bv_add ?_
    refine L_move rfl rfl ?_
    refine L_nil ?_
    exact ⟨(X5, IntKind.wrap .i64 (v1_1 + 1)), (Sub.cons rfl (Sub.cons rfl (Sub.cons rfl (Sub.cons rfl (Sub.nil _))))), (Arr.sub (MSub.cons (by first | (with_reducible repeat (first | exact Pick.here _ | apply Pick.there)); done | (repeat (first | exact Pick.here _ | apply Pick.there))) (MSub.nil _))), some_eq hp⟩
  · skip
    replace hp := cond_f hc2 hp
    refine W_exit ?_
    have ho := hp; clear hp; obtain ⟨a7, hp, hx_a7⟩ := map_any ho; clear ho
    obtain rfl := hx1 _ hx_a7
    refine W_seq ?_
    refine W_region ?_
    refine L_move rfl rfl ?_
    refine L_assign rfl rfl ?_
    refine L_nil ?_
    obtain rfl := Option.some.inj hp
    refine W_ret ?_
    refine res1 rfl (ResOK.tmp rfl) ⟨v1_0, rfl, rfl, rfl⟩ (MSub.cons (by first | (with_reducible repeat (first | exact Pick.here _ | apply Pick.there)); done | (repeat (first | exact Pick.here _ | apply Pick.there))) (MSub.nil _))

noncomputable def s_l9Lead (a0 : D_Lead) : Option Bool :=
  Option.bind (s_l8Id (a0.1.1, a0.1.2)) (fun y1 => gb (!(!y1)) (s_l1In a0.2.1 0 600) (fun y2 => gb (!((!y1) || (!y2))) (s_l1In a0.2.2.1 1 3) (fun y3 => gb (!(((!y1) || (!y2)) || (!y3))) (s_l1In a0.2.2.2.1 0 60) (fun y4 => gb (!((((!y1) || (!y2)) || (!y3)) || (!y4))) (s_IdsOk a0.2.2.2.2.1) (fun y5 => gb (!(((((!y1) || (!y2)) || (!y3)) || (!y4)) || (!y5))) (s_l8Has a0.2.2.2.2.1 (a0.1.1, a0.1.2)) (fun y6 => cond (((((((!y1) || (!y2)) || (!y3)) || (!y4)) || (!y5)) || y6) || (decide (3 < (a0.2.2.2.2.2.1.length : Int)))) (some false) (whileP (fun s8 : Int => cond (decide (s8 < (a0.2.2.2.2.2.1.length : Int))) (Option.bind (idx a0.2.2.2.2.2.1 s8) (fun y10 => Option.bind (s_l9Node y10) (fun y11 => gb ((!(!y11)) && (decide (0 < s8))) (idx a0.2.2.2.2.2.1 (IntKind.wrap .i64 (s8 - 1))) (fun y12 => gb ((!(!y11)) && (decide (0 < s8))) (idx a0.2.2.2.2.2.1 s8) (fun y13 => cond ((!y11) || ((decide (0 < s8)) && (decide (y13 ≤ y12)))) (Option.map .inr (some false)) (some (.inl (IntKind.wrap .i64 (s8 + 1))))))))) (Option.map .inr (some true))) 0)))))))

theorem s_l9Lead_walk (w : World) (a0 : T_Lead) (h0 : GT.rd w [] a0) (r : Bool) (hp : s_l9Lead (GT.dat a0) = some r) : Spec Try.prog 223 [.agg (GT.cells a0).toArray].toArray w [] (IsV (.bool r)) := by
  obtain ⟨⟨a0_1, a0_2⟩, a0_3, a0_4, a0_5, a0_6, a0_7, a0_8⟩ := a0
  change Spec _ _ ([Value.agg #[.int .i64 a0_1, .int .i64 a0_2, .int .i64 a0_3, .int .i64 a0_4, .int .i64 a0_5, (TL.hdr a0_6), (TL.hdr a0_7), .bool a0_8]] : List Value).toArray w [] _
  refine Spec.intro Try.func223 rfl Try.ntmps223 rfl ?_
  unfold s_l9Lead at hp
  try dsimp only [dat_pair, dat_int, dat_bool, dat_str] at hp
  refine W_seq ?_
  refine W_region ?_
  refine L_box rfl rfl (fun bk1 => ?_)
  refine L_assign rfl rfl ?_
  refine L_nil ?_
  refine W_seq ?_
  refine W_seq ?_
  have ho := hp; clear hp; obtain ⟨y1, hy1, hp⟩ := bind_any ho; clear ho
  have ho := hp; clear hp; obtain ⟨y2, hy2, hp⟩ := gb_any ho; clear ho
  have ho := hp; clear hp; obtain ⟨y3, hy3, hp⟩ := gb_any ho; clear ho
  have ho := hp; clear hp; obtain ⟨y4, hy4, hp⟩ := gb_any ho; clear ho
  have ho := hp; clear hp; obtain ⟨y5, hy5, hp⟩ := gb_any ho; clear ho
  have ho := hp; clear hp; obtain ⟨y6, hy6, hp⟩ := gb_any ho; clear ho
  refine W_D0 [44] mix (by kernel_rfl) rfl ?_
  refine D_fieldAddr GC.none (OpV.t rfl) fld270_0 ?_
  refine D_loadW GC.none (OpV.t rfl) (fun hg => RdC.seg (RdC.blk (by first | (with_reducible repeat (first | exact List.Mem.head _ | apply List.Mem.tail)); done | (repeat (first | exact List.Mem.head _ | apply List.Mem.tail)))) 0 2 rfl) (by exact agg264) ?_
  refine D_callX GC.none fn268 (OpVs.cons (OpV.t rfl) (OpVs.nil)) (by exact fun hg w F hF hM => s_l8Id_walk w (a0_1, a0_2) (RdT.nowS (RdT.pair RdT.int RdT.int) hF hM) _ hy1) ?_
  refine D_not GC.none (OpV.t rfl) ?_
  refine D_move GC.none (OpV.t rfl) ?_
  refine D_fieldAddr (GC.some rfl rfl) (OpV.t rfl) fld270_1 ?_
  refine D_load (GC.some rfl rfl) (OpV.s rfl) (fun hg => RdC.blk (by first | (with_reducible repeat (first | exact List.Mem.head _ | apply List.Mem.tail)); done | (repeat (first | exact List.Mem.head _ | apply List.Mem.tail)))) one3 rfl ?_
  refine D_callX (GC.some rfl rfl) fn123 (OpVs.cons (OpV.s rfl) (OpVs.cons OpV.c (OpVs.cons OpV.c (OpVs.nil)))) (by exact fun hg w F hF hM => s_l1In_walk w a0_3 0 600  _ (hy2 (gnot hg.2))) ?_
  refine D_not (GC.some rfl rfl) (OpV.s rfl) ?_
  refine D_or (cy := _) GC.none (OpV.t rfl) (OpV.s rfl) (fun h hb => ⟨h, hb⟩) ?_
  refine D_move GC.none (OpV.t rfl) ?_
  refine D_fieldAddr (GC.some rfl rfl) (OpV.t rfl) fld270_2 ?_
  refine D_load (GC.some rfl rfl) (OpV.s rfl) (fun hg => RdC.blk (by first | (with_reducible repeat (first | exact List.Mem.head _ | apply List.Mem.tail)); done | (repeat (first | exact List.Mem.head _ | apply List.Mem.tail)))) one3 rfl ?_
  refine D_callX (GC.some rfl rfl) fn123 (OpVs.cons (OpV.s rfl) (OpVs.cons OpV.c (OpVs.cons OpV.c (OpVs.nil)))) (by exact fun hg w F hF hM => s_l1In_walk w a0_4 1 3  _ (hy3 (gnot hg.2))) ?_
  refine D_not (GC.some rfl rfl) (OpV.s rfl) ?_
  refine D_or (cy := _) GC.none (OpV.t rfl) (OpV.s rfl) (fun h hb => ⟨h, hb⟩) ?_
  refine D_move GC.none (OpV.t rfl) ?_
  refine D_fieldAddr (GC.some rfl rfl) (OpV.t rfl) fld270_3 ?_
  refine D_load (GC.some rfl rfl) (OpV.s rfl) (fun hg => RdC.blk (by first | (with_reducible repeat (first | exact List.Mem.head _ | apply List.Mem.tail)); done | (repeat (first | exact List.Mem.head _ | apply List.Mem.tail)))) one3 rfl ?_
  refine D_callX (GC.some rfl rfl) fn123 (OpVs.cons (OpV.s rfl) (OpVs.cons OpV.c (OpVs.cons OpV.c (OpVs.nil)))) (by exact fun hg w F hF hM => s_l1In_walk w a0_5 0 60  _ (hy4 (gnot hg.2))) ?_
  refine D_not (GC.some rfl rfl) (OpV.s rfl) ?_
  refine D_or (cy := _) GC.none (OpV.t rfl) (OpV.s rfl) (fun h hb => ⟨h, hb⟩) ?_
  refine D_move GC.none (OpV.t rfl) ?_
  refine D_fieldAddr (GC.some rfl rfl) (OpV.t rfl) fld270_4 ?_
  refine D_load (GC.some rfl rfl) (OpV.s rfl) (fun hg => RdC.blk (by first | (with_reducible repeat (first | exact List.Mem.head _ | apply List.Mem.tail)); done | (repeat (first | exact List.Mem.head _ | apply List.Mem.tail)))) one265 rfl ?_
  refine D_callX (GC.some rfl rfl) fn269 (OpVs.cons (OpV.s rfl) (OpVs.nil)) (by exact fun hg w F hF hM => s_IdsOk_walk w a0_6 (RdT.nowS (RdT.old h0.2.2.2.2.1) hF hM) _ (hy5 (gnot hg.2))) ?_
  refine D_not (GC.some rfl rfl) (OpV.s rfl) ?_
  refine D_or (cy := _) GC.none (OpV.t rfl) (OpV.s rfl) (fun h hb => ⟨h, hb⟩) ?_
  refine D_move GC.none (OpV.t rfl) ?_
  refine D_fieldAddr (GC.some rfl rfl) (OpV.t rfl) fld270_4 ?_
  refine D_load (GC.some rfl rfl) (OpV.s rfl) (fun hg => RdC.blk (by first | (with_reducible repeat (first | exact List.Mem.head _ | apply List.Mem.tail)); done | (repeat (first | exact List.Mem.head _ | apply List.Mem.tail)))) one265 rfl ?_
  refine D_fieldAddr (GC.some rfl rfl) (OpV.t rfl) fld270_0 ?_
  refine D_loadW (GC.some rfl rfl) (OpV.s rfl) (fun hg => RdC.seg (RdC.blk (by first | (with_reducible repeat (first | exact List.Mem.head _ | apply List.Mem.tail)); done | (repeat (first | exact List.Mem.head _ | apply List.Mem.tail)))) 0 2 rfl) (by exact agg264) ?_
  refine D_callX (GC.some rfl rfl) fn270 (OpVs.cons (OpV.s rfl) (OpVs.cons (OpV.s rfl) (OpVs.nil))) (by exact fun hg w F hF hM => s_l8Has_walk w a0_6 (a0_1, a0_2) (RdT.nowS (RdT.old h0.2.2.2.2.1) hF hM) (RdT.nowS (RdT.pair RdT.int RdT.int) hF hM) _ (hy6 (gnot hg.2))) ?_
  refine D_or (cy := _) GC.none (OpV.t rfl) (OpV.s rfl) (fun h hb => ⟨h, hb⟩) ?_
  refine D_move GC.none (OpV.t rfl) ?_
  refine D_fieldAddr (GC.some rfl rfl) (OpV.t rfl) fld270_5 ?_
  refine D_load (GC.some rfl rfl) (OpV.s rfl) (fun hg => RdC.blk (by first | (with_reducible repeat (first | exact List.Mem.head _ | apply List.Mem.tail)); done | (repeat (first | exact List.Mem.head _ | apply List.Mem.tail)))) one49 rfl ?_
  refine D_lenP (X := a0_7) (GC.some rfl rfl) (OpV.s rfl) el49 ?_
  refine D_bin (GC.some rfl rfl) (OpV.s rfl) OpV.c (fun hg => bv_gtr) ?_
  refine D_or (cy := _) GC.none (OpV.t rfl) (OpV.s rfl) (fun h hb => ⟨h, hb⟩) ?_
  refine DV_nil ?_
  refine Give_is rfl rfl ?_
  refine Give_drop rfl ?_
  refine Give_drop rfl ?_
  refine Give_drop rfl ?_
  refine Give_drop rfl ?_
  refine Give_drop rfl ?_
  refine Give_drop rfl ?_
  refine Give_drop rfl ?_
  refine Give_drop rfl ?_
  refine Give_drop rfl ?_
  refine Give_drop rfl ?_
  refine Give_drop rfl ?_
  refine Give_drop rfl ?_
  refine Give_drop rfl ?_
  refine Give_drop rfl ?_
  refine Give_drop rfl ?_
  refine Give_drop rfl ?_
  refine Give_drop rfl ?_
  refine Give_drop rfl ?_
  refine Give_drop rfl ?_
  refine Give_drop rfl ?_
  refine Give_drop rfl ?_
  refine Give_drop rfl ?_
  refine Give_drop rfl ?_
  refine Give_drop rfl ?_
  refine Give_drop rfl ?_
  refine Give_drop rfl ?_
  refine Give_drop rfl ?_
  refine Give_drop rfl ?_
  refine Give_drop rfl ?_
  refine Give_drop rfl ?_
  refine Give_drop rfl ?_
  refine Give_drop rfl ?_
  refine Give_drop rfl ?_
  refine Give_drop rfl ?_
  refine Give_drop rfl ?_
  refine Give_drop rfl ?_
  refine Give_drop rfl ?_
  refine Give_drop rfl ?_
  refine Give_drop rfl ?_
  refine Give_drop rfl ?_
  refine Give_nil ?_
  refine W_weaken (l' := [(1, _), (44, _)]) (Sub.cons rfl (Sub.cons rfl (Sub.nil _))) (MSub.refl _) ?_
  refine W_cond rfl (fun hc7 => ?_) (fun hc7 => ?_)
  · skip
    replace hp := cond_t hc7 hp
    refine W_seq ?_
    refine W_region ?_
    refine L_assign rfl rfl ?_
    refine L_nil ?_
    obtain rfl := Option.some.inj hp
    refine W_ret ?_
    refine res1 rfl (ResOK.tmp rfl) ⟨rfl, rfl⟩ (MSub.nil _)
  · skip
    replace hp := cond_f hc7 hp
    refine W_skip ?_
    refine W_seq ?_
    refine W_seq ?_
    refine W_region ?_
    refine L_assign rfl rfl ?_
    refine L_nil ?_
    refine W_block ?_
    refine W_while (σ := Int) GT.dat (fun (v8_0 : Int) => [(3, .int .i64 v8_0)]) (fun (v8_0 : Int) => []) [(1, _)] [blk bk1 _ _] 0 hp (Sub.cons rfl (Sub.cons rfl (Sub.nil _))) (MSub.cons (by first | (with_reducible repeat (first | exact Pick.here _ | apply Pick.there)); done | (repeat (first | exact Pick.here _ | apply Pick.there))) (MSub.nil _)) ?_
    clear hp
    rintro v8_0 x8 hp hx8
    try dsimp only [dat_pair, dat_int, dat_bool, dat_str] at hp
    refine W_weaken (l' := [(1, _), (3, _)]) (Sub.cons rfl (Sub.cons rfl (Sub.nil _))) (M' := [_]) (MSub.cons (by first | (with_reducible repeat (first | exact Pick.here _ | apply Pick.there)); done | (repeat (first | exact Pick.here _ | apply Pick.there))) (MSub.nil _)) ?_
    refine W_seq ?_
    refine W_seq ?_
    refine W_region ?_
    refine L_move rfl rfl ?_
    refine L_fieldAddr rfl rfl fld270_5 ?_
    refine L_load rfl rfl (RdC.blk (by first | (with_reducible repeat (first | exact List.Mem.head _ | apply List.Mem.tail)); done | (repeat (first | exact List.Mem.head _ | apply List.Mem.tail)))) one49 rfl ?_
    refine L_lenP (X := a0_7) rfl rfl el49 ?_
    refine L_binV rfl rfl rfl bv_lss ?_
    refine L_nil ?_
    refine W_weaken (l' := [(1, _), (3, _), (49, _)]) (Sub.cons rfl (Sub.cons rfl (Sub.cons rfl (Sub.nil _)))) (MSub.refl _) ?_
    refine W_cond rfl (fun hc9 => ?_) (fun hc9 => ?_)
    · skip
      replace hp := cond_t hc9 hp
      refine W_skip ?_
      refine W_seq ?_
      refine W_block ?_
      refine W_seq ?_
      have ho := hp; clear hp; obtain ⟨u10, hy10, hp⟩ := idx_bind ho; clear ho
      have ho := hp; clear hp; obtain ⟨y11, hy11, hp⟩ := bind_any ho; clear ho
      have ho := hp; clear hp; obtain ⟨u12, hy12, hp⟩ := idx_gb ho; clear ho
      have ho := hp; clear hp; obtain ⟨u13, hy13, hp⟩ := idx_gb ho; clear ho
      refine W_D0 [76] mix (by kernel_rfl) rfl ?_
      refine D_fieldAddr GC.none (OpV.t rfl) fld270_5 ?_
      refine D_load GC.none (OpV.t rfl) (fun hg => RdC.blk (by first | (with_reducible repeat (first | exact List.Mem.head _ | apply List.Mem.tail)); done | (repeat (first | exact List.Mem.head _ | apply List.Mem.tail)))) one49 rfl ?_
      refine D_move GC.none (OpV.t rfl) ?_
      refine D_idxA (X := a0_7) GC.none (OpV.t rfl) (OpV.t rfl) el49 (RdT.old h0.2.2.2.2.2.1) (fun _ => hy10) ?_
      refine D_load0 GC.none (OpV.t rfl) (fun hg => RdT.at (RdT.old h0.2.2.2.2.2.1) (hy10).2) one3 rfl ?_
      refine D_callX GC.none fn107 (OpVs.cons (OpV.t rfl) (OpVs.nil)) (by exact fun hg w F hF hM => s_l9Node_walk w u10  _ hy11) ?_
      refine D_not GC.none (OpV.t rfl) ?_
      refine D_move GC.none (OpV.t rfl) ?_
      refine D_move (GC.some rfl rfl) (OpV.t rfl) ?_
      refine D_bin (GC.some rfl rfl) (OpV.s rfl) OpV.c (fun hg => bv_gtr) ?_
      refine D_move (GC.some rfl rfl) (OpV.s rfl) ?_
      refine D_fieldAddr (GC.some rfl rfl) (OpV.t rfl) fld270_5 ?_
      refine D_load (GC.some rfl rfl) (OpV.s rfl) (fun hg => RdC.blk (by first | (with_reducible repeat (first | exact List.Mem.head _ | apply List.Mem.tail)); done | (repeat (first | exact List.Mem.head _ | apply List.Mem.tail)))) one49 rfl ?_
      refine D_move (GC.some rfl rfl) (OpV.t rfl) ?_
      refine D_bin (GC.some rfl rfl) (OpV.s rfl) OpV.c (fun hg => bv_sub) ?_
      refine D_idxA (X := a0_7) (GC.some rfl rfl) (OpV.s rfl) (OpV.s rfl) el49 (RdT.old h0.2.2.2.2.2.1) (fun hg => hy12 (gand (gnot hg.1.2) hg.2)) ?_
      refine D_load0 (GC.some rfl rfl) (OpV.s rfl) (fun hg => RdT.at (RdT.old h0.2.2.2.2.2.1) (hy12 (gand (gnot hg.1.2) hg.2)).2) one3 rfl ?_
      refine D_fieldAddr (GC.some rfl rfl) (OpV.t rfl) fld270_5 ?_
      refine D_load (GC.some rfl rfl) (OpV.s rfl) (fun hg => RdC.blk (by first | (with_reducible repeat (first | exact List.Mem.head _ | apply List.Mem.tail)); done | (repeat (first | exact List.Mem.head _ | apply List.Mem.tail)))) one49 rfl ?_
      refine D_move (GC.some rfl rfl) (OpV.t rfl) ?_
      refine D_idxA (X := a0_7) (GC.some rfl rfl) (OpV.s rfl) (OpV.s rfl) el49 (RdT.old h0.2.2.2.2.2.1) (fun hg => hy13 (gand (gnot hg.1.2) hg.2)) ?_
      refine D_load0 (GC.some rfl rfl) (OpV.s rfl) (fun hg => RdT.at (RdT.old h0.2.2.2.2.2.1) (hy13 (gand (gnot hg.1.2) hg.2)).2) one3 rfl ?_
      refine D_bin (GC.some rfl rfl) (OpV.s rfl) (OpV.s rfl) (fun hg => bv_geq) ?_
      refine D_and (cy := _) (GC.some rfl rfl) (OpV.s rfl) (OpV.s rfl) (fun h hb => ⟨h, hb⟩) ?_
      refine D_or (cy := _) GC.none (OpV.t rfl) (OpV.s rfl) (fun h hb => ⟨h, hb⟩) ?_
      refine DV_nil ?_
      refine Give_is rfl rfl ?_
      refine Give_drop rfl ?_
      refine Give_drop rfl ?_
      refine Give_drop rfl ?_
      refine Give_drop rfl ?_
      refine Give_drop rfl ?_
      refine Give_drop rfl ?_
      refine Give_drop rfl ?_
      refine Give_drop rfl ?_
      refine Give_drop rfl ?_
      refine Give_drop rfl ?_
      refine Give_drop rfl ?_
      refine Give_drop rfl ?_
      refine Give_drop rfl ?_
      refine Give_drop rfl ?_
      refine Give_drop rfl ?_
      refine Give_drop rfl ?_
      refine Give_drop rfl ?_
      refine Give_drop rfl ?_
      refine Give_drop rfl ?_
      refine Give_drop rfl ?_
      refine Give_drop rfl ?_
      refine Give_drop rfl ?_
      refine Give_drop rfl ?_
      refine Give_drop rfl ?_
      refine Give_nil ?_
      refine W_weaken (l' := [(1, _), (3, _), (76, _)]) (Sub.cons rfl (Sub.cons rfl (Sub.cons rfl (Sub.nil _)))) (MSub.refl _) ?_
      refine W_cond rfl (fun hc14 => ?_) (fun hc14 => ?_)
      · skip
        replace hp := cond_t hc14 hp
        refine W_seq ?_
        refine W_region ?_
        refine L_assign rfl rfl ?_
        refine L_nil ?_
        have ho := hp; clear hp; obtain ⟨a15, hp, hx_a15⟩ := map_any ho; clear ho
        obtain rfl := hx8 _ hx_a15
        obtain rfl := Option.some.inj hp
        refine W_ret ?_
        refine res1 rfl (ResOK.tmp rfl) ⟨rfl, rfl⟩ (MSub.nil _)
      · skip
        replace hp := cond_f hc14 hp
        refine W_skip ?_
        refine W_region ?_
        refine L_move rfl rfl ?_
        refine L_binV rfl rfl rfl bv_add ?_
        refine L_assign rfl rfl ?_
        refine L_nil ?_
        exact ⟨IntKind.wrap .i64 (v8_0 + 1), (Sub.cons rfl (Sub.cons rfl (Sub.nil _))), (Arr.sub (MSub.cons (by first | (with_reducible repeat (first | exact Pick.here _ | apply Pick.there)); done | (repeat (first | exact Pick.here _ | apply Pick.there))) (MSub.nil _))), some_eq hp⟩
    · skip
      replace hp := cond_f hc9 hp
      refine W_exit ?_
      have ho := hp; clear hp; obtain ⟨a16, hp, hx_a16⟩ := map_any ho; clear ho
      obtain rfl := hx8 _ hx_a16
      refine W_seq ?_
      refine W_region ?_
      refine L_assign rfl rfl ?_
      refine L_nil ?_
      obtain rfl := Option.some.inj hp
      refine W_ret ?_
      refine res1 rfl (ResOK.tmp rfl) ⟨rfl, rfl⟩ (MSub.nil _)

noncomputable def s_l9At (a0 : D_ENode) (a1 : D_Id) : Option Int :=
  whileP (fun s1 : Int => cond (decide (s1 < (a0.2.2.2.length : Int))) (Option.bind (idx a0.2.2.2 s1) (fun y3 => cond (decide (y3.1.1 = a1.1) && (decide (y3.1.2 = a1.2) && true)) (Option.map .inr (some s1)) (some (.inl (IntKind.wrap .i64 (s1 + 1)))))) (Option.map .inr (some (-1)))) 0

theorem s_l9At_walk (w : World) (a0 : T_ENode) (a1 : T_Id) (h0 : GT.rd w [] a0) (h1 : GT.rd w [] a1) (r : Int) (hp : s_l9At (GT.dat a0) (GT.dat a1) = some r) : Spec Try.prog 224 [.agg (GT.cells a0).toArray, .agg (GT.cells a1).toArray].toArray w [] (IsV (.int .i64 r)) := by
  obtain ⟨a0_1, a0_2, a0_3, a0_4⟩ := a0
  obtain ⟨a1_1, a1_2⟩ := a1
  change Spec _ _ ([Value.agg #[.int .i64 a0_1, .int .i64 a0_2, (TL.hdr a0_3), (TL.hdr a0_4)], Value.agg #[.int .i64 a1_1, .int .i64 a1_2]] : List Value).toArray w [] _
  refine Spec.intro Try.func224 rfl Try.ntmps224 rfl ?_
  unfold s_l9At at hp
  try dsimp only [dat_pair, dat_int, dat_bool, dat_str] at hp
  refine W_seq ?_
  refine W_region ?_
  refine L_box rfl rfl (fun bk2 => ?_)
  refine L_box rfl rfl (fun bk3 => ?_)
  refine L_assign rfl rfl ?_
  refine L_nil ?_
  refine W_seq ?_
  refine W_seq ?_
  refine W_region ?_
  refine L_assign rfl rfl ?_
  refine L_nil ?_
  refine W_block ?_
  refine W_while (σ := Int) GT.dat (fun (v1_0 : Int) => [(5, .int .i64 v1_0)]) (fun (v1_0 : Int) => []) [(2, _), (3, _)] [blk bk2 _ _, blk bk3 _ _] 0 hp (Sub.cons rfl (Sub.cons rfl (Sub.cons rfl (Sub.nil _)))) (MSub.cons (by first | (with_reducible repeat (first | exact Pick.here _ | apply Pick.there)); done | (repeat (first | exact Pick.here _ | apply Pick.there))) (MSub.cons (by first | (with_reducible repeat (first | exact Pick.here _ | apply Pick.there)); done | (repeat (first | exact Pick.here _ | apply Pick.there))) (MSub.nil _))) ?_
  clear hp
  rintro v1_0 x1 hp hx1
  try dsimp only [dat_pair, dat_int, dat_bool, dat_str] at hp
  refine W_weaken (l' := [(2, _), (3, _), (5, _)]) (Sub.cons rfl (Sub.cons rfl (Sub.cons rfl (Sub.nil _)))) (M' := [_, _]) (MSub.cons (by first | (with_reducible repeat (first | exact Pick.here _ | apply Pick.there)); done | (repeat (first | exact Pick.here _ | apply Pick.there))) (MSub.cons (by first | (with_reducible repeat (first | exact Pick.here _ | apply Pick.there)); done | (repeat (first | exact Pick.here _ | apply Pick.there))) (MSub.nil _))) ?_
  refine W_seq ?_
  refine W_seq ?_
  refine W_region ?_
  refine L_move rfl rfl ?_
  refine L_fieldAddr rfl rfl fld117_3 ?_
  refine L_load rfl rfl (RdC.blk (by first | (with_reducible repeat (first | exact List.Mem.head _ | apply List.Mem.tail)); done | (repeat (first | exact List.Mem.head _ | apply List.Mem.tail)))) one115 rfl ?_
  refine L_lenP (X := a0_4) rfl rfl el115 ?_
  refine L_binV rfl rfl rfl bv_lss ?_
  refine L_nil ?_
  refine W_weaken (l' := [(2, _), (3, _), (5, _), (10, _)]) (Sub.cons rfl (Sub.cons rfl (Sub.cons rfl (Sub.cons rfl (Sub.nil _))))) (MSub.refl _) ?_
  refine W_cond rfl (fun hc2 => ?_) (fun hc2 => ?_)
  · skip
    replace hp := cond_t hc2 hp
    refine W_skip ?_
    refine W_seq ?_
    refine W_block ?_
    refine W_seq ?_
    have ho := hp; clear hp; obtain ⟨u3, hy3, hp⟩ := idx_bind ho; clear ho
    obtain ⟨⟨u3_1, u3_2⟩, u3_3, u3_4, u3_5, u3_6, u3_7, u3_8⟩ := u3
    refine W_D0 [20] mix (by kernel_rfl) rfl ?_
    refine D_fieldAddr GC.none (OpV.t rfl) fld117_3 ?_
    refine D_load GC.none (OpV.t rfl) (fun hg => RdC.blk (by first | (with_reducible repeat (first | exact List.Mem.head _ | apply List.Mem.tail)); done | (repeat (first | exact List.Mem.head _ | apply List.Mem.tail)))) one115 rfl ?_
    refine D_move GC.none (OpV.t rfl) ?_
    refine D_idxA (X := a0_4) GC.none (OpV.t rfl) (OpV.t rfl) el115 (RdT.old h0.2.2.2) (fun _ => hy3) ?_
    refine D_fieldAddr GC.none (OpV.t rfl) fld270_0 ?_
    refine D_loadW GC.none (OpV.t rfl) (fun hg => RdC.seg (RdT.at (RdT.old h0.2.2.2) (hy3).2) 0 2 rfl) (by exact agg264) ?_
    refine D_loadW GC.none (OpV.t rfl) (fun hg => RdC.blk (by first | (with_reducible repeat (first | exact List.Mem.head _ | apply List.Mem.tail)); done | (repeat (first | exact List.Mem.head _ | apply List.Mem.tail)))) (by exact agg264) ?_
    refine D_bin GC.none (OpV.t rfl) (OpV.t rfl) (fun hg => (bv_aeql eqsh264 (EqS.consI one3 und3 rfl rfl (EqS.consI one3 und3 rfl rfl EqS.nil)))) ?_
    refine DV_nil ?_
    refine Give_is rfl rfl ?_
    refine Give_drop rfl ?_
    refine Give_drop rfl ?_
    refine Give_drop rfl ?_
    refine Give_drop rfl ?_
    refine Give_drop rfl ?_
    refine Give_drop rfl ?_
    refine Give_drop rfl ?_
    refine Give_nil ?_
    refine W_weaken (l' := [(2, _), (3, _), (5, _), (20, _)]) (Sub.cons rfl (Sub.cons rfl (Sub.cons rfl (Sub.cons rfl (Sub.nil _))))) (MSub.refl _) ?_
    refine W_cond rfl (fun hc4 => ?_) (fun hc4 => ?_)
    · skip
      replace hp := cond_t hc4 hp
      refine W_seq ?_
      refine W_region ?_
      refine L_move rfl rfl ?_
      refine L_assign rfl rfl ?_
      refine L_nil ?_
      have ho := hp; clear hp; obtain ⟨a5, hp, hx_a5⟩ := map_any ho; clear ho
      obtain rfl := hx1 _ hx_a5
      obtain rfl := Option.some.inj hp
      refine W_ret ?_
      refine res1 rfl (ResOK.tmp rfl) ⟨rfl, rfl⟩ (MSub.nil _)
    · skip
      replace hp := cond_f hc4 hp
      refine W_skip ?_
      refine W_region ?_
      refine L_move rfl rfl ?_
      refine L_binV rfl rfl rfl bv_add ?_
      refine L_assign rfl rfl ?_
      refine L_nil ?_
      exact ⟨IntKind.wrap .i64 (v1_0 + 1), (Sub.cons rfl (Sub.cons rfl (Sub.cons rfl (Sub.nil _)))), (Arr.sub (MSub.cons (by first | (with_reducible repeat (first | exact Pick.here _ | apply Pick.there)); done | (repeat (first | exact Pick.here _ | apply Pick.there))) (MSub.cons (by first | (with_reducible repeat (first | exact Pick.here _ | apply Pick.there)); done | (repeat (first | exact Pick.here _ | apply Pick.there))) (MSub.nil _)))), some_eq hp⟩
  · skip
    replace hp := cond_f hc2 hp
    refine W_exit ?_
    have ho := hp; clear hp; obtain ⟨a6, hp, hx_a6⟩ := map_any ho; clear ho
    obtain rfl := hx1 _ hx_a6
    refine W_seq ?_
    refine W_region ?_
    refine L_assign rfl rfl ?_
    refine L_nil ?_
    obtain rfl := Option.some.inj hp
    refine W_ret ?_
    refine res1 rfl (ResOK.tmp rfl) ⟨rfl, rfl⟩ (MSub.nil _)

noncomputable def s_ENodeOk (a0 : D_ENode) : Option Bool :=
  Option.bind (s_l9Node a0.1) (fun y1 => gb (!(!y1)) (s_l1In a0.2.1 1 7) (fun y2 => gb (!((!y1) || (!y2))) (s_InstsOk a0.2.2.1) (fun y3 => cond ((((!y1) || (!y2)) || (!y3)) || (decide (8 < (a0.2.2.2.length : Int)))) (some false) (whileP (fun s5 : Int => cond (decide (s5 < (a0.2.2.1.length : Int))) (Option.bind (idx a0.2.2.1 s5) (fun y7 => gb (decide (y7.1.1 = a0.1)) (idx a0.2.2.1 s5) (fun y8 => cond ((decide (y7.1.1 = a0.1)) && (decide (a0.2.1 ≤ y8.1.2))) (Option.map .inr (some false)) (some (.inl (IntKind.wrap .i64 (s5 + 1))))))) (Option.map .inr (whileP (fun s12 : Int => cond (decide (s12 < (a0.2.2.2.length : Int))) (Option.bind (idx a0.2.2.2 s12) (fun y14 => Option.bind (s_l9Lead ((y14.1.1, y14.1.2), y14.2.1, y14.2.2.1, y14.2.2.2.1, y14.2.2.2.2.1, y14.2.2.2.2.2.1, y14.2.2.2.2.2.2)) (fun y15 => gb (!(!y15)) (idx a0.2.2.2 s12) (fun y16 => gb (!(!y15)) (s_l9At (a0.1, a0.2.1, a0.2.2.1, a0.2.2.2) (y16.1.1, y16.1.2)) (fun y17 => cond ((!y15) || (!decide (y17 = s12))) (Option.map .inr (some false)) (some (.inl (IntKind.wrap .i64 (s12 + 1))))))))) (Option.map .inr (some true))) 0))) 0))))

theorem s_ENodeOk_walk (w : World) (a0 : T_ENode) (h0 : GT.rd w [] a0) (r : Bool) (hp : s_ENodeOk (GT.dat a0) = some r) : Spec Try.prog 162 [.agg (GT.cells a0).toArray].toArray w [] (IsV (.bool r)) := by
  obtain ⟨a0_1, a0_2, a0_3, a0_4⟩ := a0
  change Spec _ _ ([Value.agg #[.int .i64 a0_1, .int .i64 a0_2, (TL.hdr a0_3), (TL.hdr a0_4)]] : List Value).toArray w [] _
  refine Spec.intro Try.func162 rfl Try.ntmps162 rfl ?_
  unfold s_ENodeOk at hp
  try dsimp only [dat_pair, dat_int, dat_bool, dat_str] at hp
  refine W_seq ?_
  refine W_region ?_
  refine L_box rfl rfl (fun bk1 => ?_)
  refine L_assign rfl rfl ?_
  refine L_nil ?_
  refine W_seq ?_
  refine W_seq ?_
  have ho := hp; clear hp; obtain ⟨y1, hy1, hp⟩ := bind_any ho; clear ho
  have ho := hp; clear hp; obtain ⟨y2, hy2, hp⟩ := gb_any ho; clear ho
  have ho := hp; clear hp; obtain ⟨y3, hy3, hp⟩ := gb_any ho; clear ho
  refine W_D0 [26] mix (by kernel_rfl) rfl ?_
  refine D_fieldAddr GC.none (OpV.t rfl) fld117_0 ?_
  refine D_load GC.none (OpV.t rfl) (fun hg => RdC.blk (by first | (with_reducible repeat (first | exact List.Mem.head _ | apply List.Mem.tail)); done | (repeat (first | exact List.Mem.head _ | apply List.Mem.tail)))) one3 rfl ?_
  refine D_callX GC.none fn107 (OpVs.cons (OpV.t rfl) (OpVs.nil)) (by exact fun hg w F hF hM => s_l9Node_walk w a0_1  _ hy1) ?_
  refine D_not GC.none (OpV.t rfl) ?_
  refine D_move GC.none (OpV.t rfl) ?_
  refine D_fieldAddr (GC.some rfl rfl) (OpV.t rfl) fld117_1 ?_
  refine D_load (GC.some rfl rfl) (OpV.s rfl) (fun hg => RdC.blk (by first | (with_reducible repeat (first | exact List.Mem.head _ | apply List.Mem.tail)); done | (repeat (first | exact List.Mem.head _ | apply List.Mem.tail)))) one3 rfl ?_
  refine D_callX (GC.some rfl rfl) fn123 (OpVs.cons (OpV.s rfl) (OpVs.cons OpV.c (OpVs.cons OpV.c (OpVs.nil)))) (by exact fun hg w F hF hM => s_l1In_walk w a0_2 1 7  _ (hy2 (gnot hg.2))) ?_
  refine D_not (GC.some rfl rfl) (OpV.s rfl) ?_
  refine D_or (cy := _) GC.none (OpV.t rfl) (OpV.s rfl) (fun h hb => ⟨h, hb⟩) ?_
  refine D_move GC.none (OpV.t rfl) ?_
  refine D_fieldAddr (GC.some rfl rfl) (OpV.t rfl) fld117_2 ?_
  refine D_load (GC.some rfl rfl) (OpV.s rfl) (fun hg => RdC.blk (by first | (with_reducible repeat (first | exact List.Mem.head _ | apply List.Mem.tail)); done | (repeat (first | exact List.Mem.head _ | apply List.Mem.tail)))) one114 rfl ?_
  refine D_callX (GC.some rfl rfl) fn222 (OpVs.cons (OpV.s rfl) (OpVs.nil)) (by exact fun hg w F hF hM => s_InstsOk_walk w a0_3 (RdT.nowS (RdT.old h0.2.2.1) hF hM) _ (hy3 (gnot hg.2))) ?_
  refine D_not (GC.some rfl rfl) (OpV.s rfl) ?_
  refine D_or (cy := _) GC.none (OpV.t rfl) (OpV.s rfl) (fun h hb => ⟨h, hb⟩) ?_
  refine D_move GC.none (OpV.t rfl) ?_
  refine D_fieldAddr (GC.some rfl rfl) (OpV.t rfl) fld117_3 ?_
  refine D_load (GC.some rfl rfl) (OpV.s rfl) (fun hg => RdC.blk (by first | (with_reducible repeat (first | exact List.Mem.head _ | apply List.Mem.tail)); done | (repeat (first | exact List.Mem.head _ | apply List.Mem.tail)))) one115 rfl ?_
  refine D_lenP (X := a0_4) (GC.some rfl rfl) (OpV.s rfl) el115 ?_
  refine D_bin (GC.some rfl rfl) (OpV.s rfl) OpV.c (fun hg => bv_gtr) ?_
  refine D_or (cy := _) GC.none (OpV.t rfl) (OpV.s rfl) (fun h hb => ⟨h, hb⟩) ?_
  refine DV_nil ?_
  refine Give_is rfl rfl ?_
  refine Give_drop rfl ?_
  refine Give_drop rfl ?_
  refine Give_drop rfl ?_
  refine Give_drop rfl ?_
  refine Give_drop rfl ?_
  refine Give_drop rfl ?_
  refine Give_drop rfl ?_
  refine Give_drop rfl ?_
  refine Give_drop rfl ?_
  refine Give_drop rfl ?_
  refine Give_drop rfl ?_
  refine Give_drop rfl ?_
  refine Give_drop rfl ?_
  refine Give_drop rfl ?_
  refine Give_drop rfl ?_
  refine Give_drop rfl ?_
  refine Give_drop rfl ?_
  refine Give_drop rfl ?_
  refine Give_drop rfl ?_
  refine Give_drop rfl ?_
  refine Give_drop rfl ?_
  refine Give_nil ?_
  refine W_weaken (l' := [(1, _), (26, _)]) (Sub.cons rfl (Sub.cons rfl (Sub.nil _))) (MSub.refl _) ?_
  refine W_cond rfl (fun hc4 => ?_) (fun hc4 => ?_)
  · skip
    replace hp := cond_t hc4 hp
    refine W_seq ?_
    refine W_region ?_
    refine L_assign rfl rfl ?_
    refine L_nil ?_
    obtain rfl := Option.some.inj hp
    refine W_ret ?_
    refine res1 rfl (ResOK.tmp rfl) ⟨rfl, rfl⟩ (MSub.nil _)
  · skip
    replace hp := cond_f hc4 hp
    refine W_skip ?_
    refine W_seq ?_
    refine W_seq ?_
    refine W_region ?_
    refine L_assign rfl rfl ?_
    refine L_nil ?_
    refine W_block ?_
    refine W_while (σ := Int) GT.dat (fun (v5_0 : Int) => [(3, .int .i64 v5_0)]) (fun (v5_0 : Int) => []) [(1, _)] [blk bk1 _ _] 0 hp (Sub.cons rfl (Sub.cons rfl (Sub.nil _))) (MSub.cons (by first | (with_reducible repeat (first | exact Pick.here _ | apply Pick.there)); done | (repeat (first | exact Pick.here _ | apply Pick.there))) (MSub.nil _)) ?_
    clear hp
    rintro v5_0 x5 hp hx5
    try dsimp only [dat_pair, dat_int, dat_bool, dat_str] at hp
    refine W_weaken (l' := [(1, _), (3, _)]) (Sub.cons rfl (Sub.cons rfl (Sub.nil _))) (M' := [_]) (MSub.cons (by first | (with_reducible repeat (first | exact Pick.here _ | apply Pick.there)); done | (repeat (first | exact Pick.here _ | apply Pick.there))) (MSub.nil _)) ?_
    refine W_seq ?_
    refine W_seq ?_
    refine W_region ?_
    refine L_move rfl rfl ?_
    refine L_fieldAddr rfl rfl fld117_2 ?_
    refine L_load rfl rfl (RdC.blk (by first | (with_reducible repeat (first | exact List.Mem.head _ | apply List.Mem.tail)); done | (repeat (first | exact List.Mem.head _ | apply List.Mem.tail)))) one114 rfl ?_
    refine L_lenP (X := a0_3) rfl rfl el114 ?_
    refine L_binV rfl rfl rfl bv_lss ?_
    refine L_nil ?_
    refine W_weaken (l' := [(1, _), (3, _), (31, _)]) (Sub.cons rfl (Sub.cons rfl (Sub.cons rfl (Sub.nil _)))) (MSub.refl _) ?_
    refine W_cond rfl (fun hc6 => ?_) (fun hc6 => ?_)
    · skip
      replace hp := cond_t hc6 hp
      refine W_skip ?_
      refine W_seq ?_
      refine W_block ?_
      refine W_seq ?_
      have ho := hp; clear hp; obtain ⟨u7, hy7, hp⟩ := idx_bind ho; clear ho
      obtain ⟨⟨u7_1, u7_2⟩, u7_3, u7_4, u7_5, ⟨u7_6, u7_7, u7_8, u7_9, u7_10, u7_11, u7_12, u7_13⟩, u7_14, u7_15, u7_16⟩ := u7
      have ho := hp; clear hp; obtain ⟨u8, hy8, hp⟩ := idx_gb ho; clear ho
      obtain ⟨⟨u8_1, u8_2⟩, u8_3, u8_4, u8_5, ⟨u8_6, u8_7, u8_8, u8_9, u8_10, u8_11, u8_12, u8_13⟩, u8_14, u8_15, u8_16⟩ := u8
      refine W_D0 [55] mix (by kernel_rfl) rfl ?_
      refine D_fieldAddr GC.none (OpV.t rfl) fld117_2 ?_
      refine D_load GC.none (OpV.t rfl) (fun hg => RdC.blk (by first | (with_reducible repeat (first | exact List.Mem.head _ | apply List.Mem.tail)); done | (repeat (first | exact List.Mem.head _ | apply List.Mem.tail)))) one114 rfl ?_
      refine D_move GC.none (OpV.t rfl) ?_
      refine D_idxA (X := a0_3) GC.none (OpV.t rfl) (OpV.t rfl) el114 (RdT.old h0.2.2.1) (fun _ => hy7) ?_
      refine D_fieldAddr GC.none (OpV.t rfl) fld267_0 ?_
      refine D_fieldAddr GC.none (OpV.t rfl) fld264_0 ?_
      refine D_load (fo := 0) GC.none (OpV.t rfl) (fun hg => RdT.at (RdT.old h0.2.2.1) (hy7).2) one3 rfl ?_
      refine D_fieldAddr GC.none (OpV.t rfl) fld117_0 ?_
      refine D_load GC.none (OpV.t rfl) (fun hg => RdC.blk (by first | (with_reducible repeat (first | exact List.Mem.head _ | apply List.Mem.tail)); done | (repeat (first | exact List.Mem.head _ | apply List.Mem.tail)))) one3 rfl ?_
      refine D_bin GC.none (OpV.t rfl) (OpV.t rfl) (fun hg => bv_eql) ?_
      refine D_move GC.none (OpV.t rfl) ?_
      refine D_fieldAddr (GC.some rfl rfl) (OpV.t rfl) fld117_2 ?_
      refine D_load (GC.some rfl rfl) (OpV.s rfl) (fun hg => RdC.blk (by first | (with_reducible repeat (first | exact List.Mem.head _ | apply List.Mem.tail)); done | (repeat (first | exact List.Mem.head _ | apply List.Mem.tail)))) one114 rfl ?_
      refine D_move (GC.some rfl rfl) (OpV.t rfl) ?_
      refine D_idxA (X := a0_3) (GC.some rfl rfl) (OpV.s rfl) (OpV.s rfl) el114 (RdT.old h0.2.2.1) (fun hg => hy8 hg.2) ?_
      refine D_fieldAddr (GC.some rfl rfl) (OpV.s rfl) fld267_0 ?_
      refine D_fieldAddr (GC.some rfl rfl) (OpV.s rfl) fld264_1 ?_
      refine D_load (fo := 1) (GC.some rfl rfl) (OpV.s rfl) (fun hg => RdT.at (RdT.old h0.2.2.1) (hy8 hg.2).2) one3 rfl ?_
      refine D_fieldAddr (GC.some rfl rfl) (OpV.t rfl) fld117_1 ?_
      refine D_load (GC.some rfl rfl) (OpV.s rfl) (fun hg => RdC.blk (by first | (with_reducible repeat (first | exact List.Mem.head _ | apply List.Mem.tail)); done | (repeat (first | exact List.Mem.head _ | apply List.Mem.tail)))) one3 rfl ?_
      refine D_bin (GC.some rfl rfl) (OpV.s rfl) (OpV.s rfl) (fun hg => bv_geq) ?_
      refine D_and (cy := _) GC.none (OpV.t rfl) (OpV.s rfl) (fun h hb => ⟨h, hb⟩) ?_
      refine DV_nil ?_
      refine Give_is rfl rfl ?_
      refine Give_drop rfl ?_
      refine Give_drop rfl ?_
      refine Give_drop rfl ?_
      refine Give_drop rfl ?_
      refine Give_drop rfl ?_
      refine Give_drop rfl ?_
      refine Give_drop rfl ?_
      refine Give_drop rfl ?_
      refine Give_drop rfl ?_
      refine Give_drop rfl ?_
      refine Give_drop rfl ?_
      refine Give_drop rfl ?_
      refine Give_drop rfl ?_
      refine Give_drop rfl ?_
      refine Give_drop rfl ?_
      refine Give_drop rfl ?_
      refine Give_drop rfl ?_
      refine Give_drop rfl ?_
      refine Give_drop rfl ?_
      refine Give_drop rfl ?_
      refine Give_drop rfl ?_
      refine Give_nil ?_
      refine W_weaken (l' := [(1, _), (3, _), (55, _)]) (Sub.cons rfl (Sub.cons rfl (Sub.cons rfl (Sub.nil _)))) (MSub.refl _) ?_
      refine W_cond rfl (fun hc9 => ?_) (fun hc9 => ?_)
      · skip
        replace hp := cond_t hc9 hp
        refine W_seq ?_
        refine W_region ?_
        refine L_assign rfl rfl ?_
        refine L_nil ?_
        have ho := hp; clear hp; obtain ⟨a10, hp, hx_a10⟩ := map_any ho; clear ho
        obtain rfl := hx5 _ hx_a10
        obtain rfl := Option.some.inj hp
        refine W_ret ?_
        refine res1 rfl (ResOK.tmp rfl) ⟨rfl, rfl⟩ (MSub.nil _)
      · skip
        replace hp := cond_f hc9 hp
        refine W_skip ?_
        refine W_region ?_
        refine L_move rfl rfl ?_
        refine L_binV rfl rfl rfl bv_add ?_
        refine L_assign rfl rfl ?_
        refine L_nil ?_
        exact ⟨IntKind.wrap .i64 (v5_0 + 1), (Sub.cons rfl (Sub.cons rfl (Sub.nil _))), (Arr.sub (MSub.cons (by first | (with_reducible repeat (first | exact Pick.here _ | apply Pick.there)); done | (repeat (first | exact Pick.here _ | apply Pick.there))) (MSub.nil _))), some_eq hp⟩
    · skip
      replace hp := cond_f hc6 hp
      refine W_exit ?_
      have ho := hp; clear hp; obtain ⟨a11, hp, hx_a11⟩ := map_any ho; clear ho
      obtain rfl := hx5 _ hx_a11
      refine W_seq ?_
      refine W_seq ?_
      refine W_region ?_
      refine L_assign rfl rfl ?_
      refine L_nil ?_
      refine W_block ?_
      refine W_while (σ := Int) GT.dat (fun (v12_0 : Int) => [(4, .int .i64 v12_0)]) (fun (v12_0 : Int) => []) [(1, _)] [blk bk1 _ _] 0 hp (Sub.cons rfl (Sub.cons rfl (Sub.nil _))) (MSub.cons (by first | (with_reducible repeat (first | exact Pick.here _ | apply Pick.there)); done | (repeat (first | exact Pick.here _ | apply Pick.there))) (MSub.nil _)) ?_
      clear hp
      rintro v12_0 x12 hp hx12
      try dsimp only [dat_pair, dat_int, dat_bool, dat_str] at hp
      refine W_weaken (l' := [(1, _), (4, _)]) (Sub.cons rfl (Sub.cons rfl (Sub.nil _))) (M' := [_]) (MSub.cons (by first | (with_reducible repeat (first | exact Pick.here _ | apply Pick.there)); done | (repeat (first | exact Pick.here _ | apply Pick.there))) (MSub.nil _)) ?_
      refine W_seq ?_
      refine W_seq ?_
      refine W_region ?_
      refine L_move rfl rfl ?_
      refine L_fieldAddr rfl rfl fld117_3 ?_
      refine L_load rfl rfl (RdC.blk (by first | (with_reducible repeat (first | exact List.Mem.head _ | apply List.Mem.tail)); done | (repeat (first | exact List.Mem.head _ | apply List.Mem.tail)))) one115 rfl ?_
      refine L_lenP (X := a0_4) rfl rfl el115 ?_
      refine L_binV rfl rfl rfl bv_lss ?_
      refine L_nil ?_
      refine W_weaken (l' := [(1, _), (4, _), (60, _)]) (Sub.cons rfl (Sub.cons rfl (Sub.cons rfl (Sub.nil _)))) (MSub.refl _) ?_
      refine W_cond rfl (fun hc13 => ?_) (fun hc13 => ?_)
      · skip
        replace hp := cond_t hc13 hp
        refine W_skip ?_
        refine W_seq ?_
        refine W_block ?_
        refine W_seq ?_
        have ho := hp; clear hp; obtain ⟨u14, hy14, hp⟩ := idx_bind ho; clear ho
        obtain ⟨⟨u14_1, u14_2⟩, u14_3, u14_4, u14_5, u14_6, u14_7, u14_8⟩ := u14
        have ho := hp; clear hp; obtain ⟨y15, hy15, hp⟩ := bind_any ho; clear ho
        have ho := hp; clear hp; obtain ⟨u16, hy16, hp⟩ := idx_gb ho; clear ho
        obtain ⟨⟨u16_1, u16_2⟩, u16_3, u16_4, u16_5, u16_6, u16_7, u16_8⟩ := u16
        have ho := hp; clear hp; obtain ⟨y17, hy17, hp⟩ := gb_any ho; clear ho
        refine W_D0 [81] mix (by kernel_rfl) rfl ?_
        refine D_fieldAddr GC.none (OpV.t rfl) fld117_3 ?_
        refine D_load GC.none (OpV.t rfl) (fun hg => RdC.blk (by first | (with_reducible repeat (first | exact List.Mem.head _ | apply List.Mem.tail)); done | (repeat (first | exact List.Mem.head _ | apply List.Mem.tail)))) one115 rfl ?_
        refine D_move GC.none (OpV.t rfl) ?_
        refine D_idxA (X := a0_4) GC.none (OpV.t rfl) (OpV.t rfl) el115 (RdT.old h0.2.2.2) (fun _ => hy14) ?_
        refine D_loadW GC.none (OpV.t rfl) (fun hg => RdT.at (RdT.old h0.2.2.2) (hy14).2) (by exact agg270) ?_
        refine D_callX GC.none fn223 (OpVs.cons (OpV.t rfl) (OpVs.nil)) (by exact fun hg w F hF hM => s_l9Lead_walk w ((u14_1, u14_2), u14_3, u14_4, u14_5, u14_6, u14_7, u14_8) (RdT.nowS (RdT.pair (RdT.pair RdT.int RdT.int) (RdT.pair RdT.int (RdT.pair RdT.int (RdT.pair RdT.int (RdT.pair (RdT.fst (RdT.snd (RdT.snd (RdT.snd (RdT.snd (RdT.of (RdT.old h0.2.2.2) (hy14).2)))))) (RdT.pair (RdT.fst (RdT.snd (RdT.snd (RdT.snd (RdT.snd (RdT.snd (RdT.of (RdT.old h0.2.2.2) (hy14).2))))))) RdT.bool)))))) hF hM) _ hy15) ?_
        refine D_not GC.none (OpV.t rfl) ?_
        refine D_move GC.none (OpV.t rfl) ?_
        refine D_loadW (GC.some rfl rfl) (OpV.t rfl) (fun hg => RdC.blk (by first | (with_reducible repeat (first | exact List.Mem.head _ | apply List.Mem.tail)); done | (repeat (first | exact List.Mem.head _ | apply List.Mem.tail)))) (by exact agg117) ?_
        refine D_fieldAddr (GC.some rfl rfl) (OpV.t rfl) fld117_3 ?_
        refine D_load (GC.some rfl rfl) (OpV.s rfl) (fun hg => RdC.blk (by first | (with_reducible repeat (first | exact List.Mem.head _ | apply List.Mem.tail)); done | (repeat (first | exact List.Mem.head _ | apply List.Mem.tail)))) one115 rfl ?_
        refine D_move (GC.some rfl rfl) (OpV.t rfl) ?_
        refine D_idxA (X := a0_4) (GC.some rfl rfl) (OpV.s rfl) (OpV.s rfl) el115 (RdT.old h0.2.2.2) (fun hg => hy16 (gnot hg.2)) ?_
        refine D_fieldAddr (GC.some rfl rfl) (OpV.s rfl) fld270_0 ?_
        refine D_loadW (GC.some rfl rfl) (OpV.s rfl) (fun hg => RdC.seg (RdT.at (RdT.old h0.2.2.2) (hy16 (gnot hg.2)).2) 0 2 rfl) (by exact agg264) ?_
        refine D_callX (GC.some rfl rfl) fn224 (OpVs.cons (OpV.s rfl) (OpVs.cons (OpV.s rfl) (OpVs.nil))) (by exact fun hg w F hF hM => s_l9At_walk w (a0_1, a0_2, a0_3, a0_4) (u16_1, u16_2) (RdT.nowS (RdT.pair RdT.int (RdT.pair RdT.int (RdT.pair (RdT.old h0.2.2.1) (RdT.old h0.2.2.2)))) hF hM) (RdT.nowS (RdT.pair RdT.int RdT.int) hF hM) _ (hy17 (gnot hg.2))) ?_
        refine D_move (GC.some rfl rfl) (OpV.t rfl) ?_
        refine D_bin (GC.some rfl rfl) (OpV.s rfl) (OpV.s rfl) (fun hg => bv_neq) ?_
        refine D_or (cy := _) GC.none (OpV.t rfl) (OpV.s rfl) (fun h hb => ⟨h, hb⟩) ?_
        refine DV_nil ?_
        refine Give_is rfl rfl ?_
        refine Give_drop rfl ?_
        refine Give_drop rfl ?_
        refine Give_drop rfl ?_
        refine Give_drop rfl ?_
        refine Give_drop rfl ?_
        refine Give_drop rfl ?_
        refine Give_drop rfl ?_
        refine Give_drop rfl ?_
        refine Give_drop rfl ?_
        refine Give_drop rfl ?_
        refine Give_drop rfl ?_
        refine Give_drop rfl ?_
        refine Give_drop rfl ?_
        refine Give_drop rfl ?_
        refine Give_drop rfl ?_
        refine Give_drop rfl ?_
        refine Give_drop rfl ?_
        refine Give_drop rfl ?_
        refine Give_nil ?_
        refine W_weaken (l' := [(1, _), (4, _), (81, _)]) (Sub.cons rfl (Sub.cons rfl (Sub.cons rfl (Sub.nil _)))) (MSub.refl _) ?_
        refine W_cond rfl (fun hc18 => ?_) (fun hc18 => ?_)
        · skip
          replace hp := cond_t hc18 hp
          refine W_seq ?_
          refine W_region ?_
          refine L_assign rfl rfl ?_
          refine L_nil ?_
          have ho := hp; clear hp; obtain ⟨a19, hp, hx_a19⟩ := map_any ho; clear ho
          obtain rfl := hx12 _ hx_a19
          obtain rfl := Option.some.inj hp
          refine W_ret ?_
          refine res1 rfl (ResOK.tmp rfl) ⟨rfl, rfl⟩ (MSub.nil _)
        · skip
          replace hp := cond_f hc18 hp
          refine W_skip ?_
          refine W_region ?_
          refine L_move rfl rfl ?_
          refine L_binV rfl rfl rfl bv_add ?_
          refine L_assign rfl rfl ?_
          refine L_nil ?_
          exact ⟨IntKind.wrap .i64 (v12_0 + 1), (Sub.cons rfl (Sub.cons rfl (Sub.nil _))), (Arr.sub (MSub.cons (by first | (with_reducible repeat (first | exact Pick.here _ | apply Pick.there)); done | (repeat (first | exact Pick.here _ | apply Pick.there))) (MSub.nil _))), some_eq hp⟩
      · skip
        replace hp := cond_f hc13 hp
        refine W_exit ?_
        have ho := hp; clear hp; obtain ⟨a20, hp, hx_a20⟩ := map_any ho; clear ho
        obtain rfl := hx12 _ hx_a20
        refine W_seq ?_
        refine W_region ?_
        refine L_assign rfl rfl ?_
        refine L_nil ?_
        obtain rfl := Option.some.inj hp
        refine W_ret ?_
        refine res1 rfl (ResOK.tmp rfl) ⟨rfl, rfl⟩ (MSub.nil _)

noncomputable def s_l9Copy (a0 : D_ENode) : Option D_ENode :=
  Option.bind (s_l8CopyAll a0.2.2.1) (fun y1 => whileP (fun s3 : Int × (List D_Lead) => cond (decide (s3.1 < (a0.2.2.2.length : Int))) (Option.bind (idx a0.2.2.2 s3.1) (fun y5 => Option.bind (some ([] : List D_Id)) (fun y7 => Option.bind (appP y7 y5.2.2.2.2.1) (fun y9 => Option.bind (some ([] : List Int)) (fun y11 => Option.bind (appP y11 y5.2.2.2.2.2.1) (fun y13 => Option.bind (appP s3.2 [((y5.1.1, y5.1.2), y5.2.1, y5.2.2.1, y5.2.2.2.1, y9, y13, y5.2.2.2.2.2.2)]) (fun y15 => some (.inl ((IntKind.wrap .i64 (s3.1 + 1), y15)))))))))) (Option.map .inr (some (a0.1, a0.2.1, y1, s3.2)))) (0, ([] : List D_Lead)))

theorem s_l9Copy_walk (w : World) (a0 : T_ENode) (h0 : GT.rd w [] a0) (r : D_ENode) (hp : s_l9Copy (GT.dat a0) = some r) : Spec Try.prog 163 [.agg (GT.cells a0).toArray].toArray w [] (fun v M => ∃ (x0 : T_ENode), v = .agg (GT.cells x0).toArray ∧ GT.dat x0 = r ∧ M = [treeH x0]) := by
  obtain ⟨a0_1, a0_2, a0_3, a0_4⟩ := a0
  change Spec _ _ ([Value.agg #[.int .i64 a0_1, .int .i64 a0_2, (TL.hdr a0_3), (TL.hdr a0_4)]] : List Value).toArray w [] _
  refine Spec.intro Try.func163 rfl Try.ntmps163 rfl ?_
  unfold s_l9Copy at hp
  try dsimp only [dat_pair, dat_int, dat_bool, dat_str] at hp
  refine W_seq ?_
  refine W_region ?_
  refine L_box rfl rfl (fun bk1 => ?_)
  refine L_alloc rfl zero117 (fun bk2 => ?_)
  refine L_nil ?_
  refine W_seq ?_
  have ho := hp; clear hp; obtain ⟨y1, hy1, hp⟩ := bind_any ho; clear ho
  refine W_DS (pre := [_, _, _, _, _, _, _, _, _]) (suf := [_]) [3, 13] [] _ (perm_nil_left _) mix (by kernel_rfl) (by kernel_rfl) rfl ?_
  refine D_fieldAddr GC.none (OpV.t rfl) fld117_0 ?_
  refine D_load GC.none (OpV.t rfl) (fun hg => RdC.blk (by first | (with_reducible repeat (first | exact List.Mem.head _ | apply List.Mem.tail)); done | (repeat (first | exact List.Mem.head _ | apply List.Mem.tail)))) one3 rfl ?_
  refine D_fieldAddr GC.none (OpV.t rfl) fld117_1 ?_
  refine D_load GC.none (OpV.t rfl) (fun hg => RdC.blk (by first | (with_reducible repeat (first | exact List.Mem.head _ | apply List.Mem.tail)); done | (repeat (first | exact List.Mem.head _ | apply List.Mem.tail)))) one3 rfl ?_
  refine D_fieldAddr GC.none (OpV.t rfl) fld117_2 ?_
  refine D_load GC.none (OpV.t rfl) (fun hg => RdC.blk (by first | (with_reducible repeat (first | exact List.Mem.head _ | apply List.Mem.tail)); done | (repeat (first | exact List.Mem.head _ | apply List.Mem.tail)))) one114 rfl ?_
  refine D_call1R (fun v M => ∃ (x0 : TL T_Inst), v = (TL.hdr x0) ∧ GT.dat x0 = y1 ∧ M = [treeH x0]) fn225 (OpVs.cons (OpV.t rfl) (OpVs.nil)) (by exact fun w F hF hM => s_l8CopyAll_walk w a0_3 (RdT.nowS (RdT.old h0.2.2.1) hF hM) _ hy1) ?_
  refine D_buildO (τ := T_Inst) (t := 12) (xs := [(0, .tmp 7), (1, .tmp 9), (2, .tmp 12)]) (ps := fun u => [(0, .int .i64 a0_1), (1, .int .i64 a0_2), (2, u)]) (cs := fun u => [.int .i64 a0_1, .int .i64 a0_2, u, (TL.hdr (TL.nil T_Lead 0))]) rfl (fun u => (OpVp.cons (OpV.t rfl) (OpVp.cons (OpV.t rfl) (OpVp.cons (OpV.t rfl) (OpVp.nil))))) bld117 (fun X => rfl) (by kernel_rfl) ?_
  refine D_alloc zero117 ?_
  refine DV_nil ?_
  refine Give_R rfl rfl ?_
  rintro vr3 Mr3 ⟨bk3, hvr3, rfl⟩
  subst hvr3
  simp only [List.cons_append, List.nil_append]
  refine Give_R rfl rfl ?_
  rintro vy1 My1 ⟨X2, hvy1, hdy1, rfl⟩
  subst hvy1
  subst hdy1
  simp only [List.cons_append, List.nil_append]
  refine Give_cons rfl ?_
  refine Give_drop rfl ?_
  refine Give_drop rfl ?_
  refine Give_drop rfl ?_
  refine Give_drop rfl ?_
  refine Give_drop rfl ?_
  refine Give_drop rfl ?_
  refine Give_nil ?_
  refine L_storeW rfl rfl (by first | (with_reducible repeat (first | exact Pick.here _ | apply Pick.there)); done | (repeat (first | exact Pick.here _ | apply Pick.there))) (by exact agg117) (by rfl) (by first | exact allOne rfl | exact fun v hv => GT.one _ v hv | (simp [Value.oneCell', TL.hdr, Value.cells]; done)) ?_
  refine L_nil ?_
  refine W_seq ?_
  refine W_seq ?_
  refine W_region ?_
  refine L_assign rfl rfl ?_
  refine L_nil ?_
  refine W_block ?_
  refine W_conv (M' := treeH (TL.nil T_Lead 0) :: _) (fun w h => addNilT (τ := T_Lead) 0 h) ?_
  refine W_while (σ := Int × (TL T_Lead)) GT.dat (fun ((v3_0, v3_1) : Int × (TL T_Lead)) => [(4, .int .i64 v3_0)]) (fun ((v3_0, v3_1) : Int × (TL T_Lead)) => [blk bk3 [.int .i64 a0_1, .int .i64 a0_2, (TL.hdr X2), (TL.hdr v3_1)] 117, treeH v3_1]) [(1, _), (2, _), (3, _)] [blk bk1 _ _, blk bk2 _ _, treeH X2] (0, (TL.nil T_Lead 0)) hp (Sub.cons rfl (Sub.cons rfl (Sub.cons rfl (Sub.cons rfl (Sub.nil _))))) (MSub.cons (by first | (with_reducible repeat (first | exact Pick.here _ | apply Pick.there)); done | (repeat (first | exact Pick.here _ | apply Pick.there))) (MSub.cons (by first | (with_reducible repeat (first | exact Pick.here _ | apply Pick.there)); done | (repeat (first | exact Pick.here _ | apply Pick.there))) (MSub.cons (by first | (with_reducible repeat (first | exact Pick.here _ | apply Pick.there)); done | (repeat (first | exact Pick.here _ | apply Pick.there))) (MSub.cons (by first | (with_reducible repeat (first | exact Pick.here _ | apply Pick.there)); done | (repeat (first | exact Pick.here _ | apply Pick.there))) (MSub.cons (by first | (with_reducible repeat (first | exact Pick.here _ | apply Pick.there)); done | (repeat (first | exact Pick.here _ | apply Pick.there))) (MSub.nil _)))))) ?_
  clear hp
  rintro ⟨v3_0, v3_1⟩ x3 hp hx3
  try dsimp only [dat_pair, dat_int, dat_bool, dat_str] at hp
  refine W_weaken (l' := [(1, _), (2, _), (3, _), (4, _)]) (Sub.cons rfl (Sub.cons rfl (Sub.cons rfl (Sub.cons rfl (Sub.nil _))))) (M' := [_, _, _, _, _]) (MSub.cons (by first | (with_reducible repeat (first | exact Pick.here _ | apply Pick.there)); done | (repeat (first | exact Pick.here _ | apply Pick.there))) (MSub.cons (by first | (with_reducible repeat (first | exact Pick.here _ | apply Pick.there)); done | (repeat (first | exact Pick.here _ | apply Pick.there))) (MSub.cons (by first | (with_reducible repeat (first | exact Pick.here _ | apply Pick.there)); done | (repeat (first | exact Pick.here _ | apply Pick.there))) (MSub.cons (by first | (with_reducible repeat (first | exact Pick.here _ | apply Pick.there)); done | (repeat (first | exact Pick.here _ | apply Pick.there))) (MSub.cons (by first | (with_reducible repeat (first | exact Pick.here _ | apply Pick.there)); done | (repeat (first | exact Pick.here _ | apply Pick.there))) (MSub.nil _)))))) ?_
  refine W_seq ?_
  refine W_seq ?_
  refine W_region ?_
  refine L_move rfl rfl ?_
  refine L_fieldAddr rfl rfl fld117_3 ?_
  refine L_load rfl rfl (RdC.blk (by first | (with_reducible repeat (first | exact List.Mem.head _ | apply List.Mem.tail)); done | (repeat (first | exact List.Mem.head _ | apply List.Mem.tail)))) one115 rfl ?_
  refine L_lenP (X := a0_4) rfl rfl el115 ?_
  refine L_binV rfl rfl rfl bv_lss ?_
  refine L_nil ?_
  refine W_weaken (l' := [(1, _), (2, _), (3, _), (4, _), (18, _)]) (Sub.cons rfl (Sub.cons rfl (Sub.cons rfl (Sub.cons rfl (Sub.cons rfl (Sub.nil _)))))) (MSub.refl _) ?_
  refine W_cond rfl (fun hc4 => ?_) (fun hc4 => ?_)
  · skip
    replace hp := cond_t hc4 hp
    refine W_skip ?_
    refine W_seq ?_
    refine W_block ?_
    refine W_seq ?_
    refine W_region ?_
    refine L_fieldAddr rfl rfl fld117_3 ?_
    refine L_load rfl rfl (RdC.blk (by first | (with_reducible repeat (first | exact List.Mem.head _ | apply List.Mem.tail)); done | (repeat (first | exact List.Mem.head _ | apply List.Mem.tail)))) one115 rfl ?_
    refine L_move rfl rfl ?_
    have ho := hp; clear hp; obtain ⟨u5, hy5, hp⟩ := idx_bind ho; clear ho
    obtain ⟨⟨u5_1, u5_2⟩, u5_3, u5_4, u5_5, u5_6, u5_7, u5_8⟩ := u5
    refine L_idxA (X := a0_4) rfl rfl rfl el115 (RdT.old h0.2.2.2) hy5 ?_
    refine L_loadW rfl rfl (RdT.at (RdT.old h0.2.2.2) (hy5).2) (by exact agg270) ?_
    refine L_alloc rfl zero270 (fun bk5 => ?_)
    refine L_storeW rfl rfl (by first | (with_reducible repeat (first | exact Pick.here _ | apply Pick.there)); done | (repeat (first | exact Pick.here _ | apply Pick.there))) (by exact agg270) (by rfl) (by first | exact allOne rfl | exact fun v hv => GT.one _ v hv | (simp [Value.oneCell', TL.hdr, Value.cells]; done)) ?_
    refine L_nil ?_
    refine W_seq ?_
    refine W_region ?_
    have ho := hp; clear hp; obtain ⟨y7, hy7, hp⟩ := bind_any ho; clear ho
    refine L_mk0 T_Id rfl el265 (fun X6 hdX6 => ?_)
    obtain rfl : GT.dat X6 = y7 := hdX6.trans (Option.some.inj hy7)
    clear hy7 hdX6
    refine L_fieldAddr rfl rfl fld270_4 ?_
    refine L_load rfl rfl (RdC.blk (by first | (with_reducible repeat (first | exact List.Mem.head _ | apply List.Mem.tail)); done | (repeat (first | exact List.Mem.head _ | apply List.Mem.tail)))) one265 rfl ?_
    have ho := hp; clear hp; obtain ⟨y9, hy9, hp⟩ := bind_any ho; clear ho
    refine L_appT (X := X6) (Y := u5_6) rfl rfl rfl el265 rfl rfl (by first | (with_reducible repeat (first | exact Pick.here _ | apply Pick.there)); done | (repeat (first | exact Pick.here _ | apply Pick.there))) (RdT.fst (RdT.snd (RdT.snd (RdT.snd (RdT.snd (RdT.of (RdT.old h0.2.2.2) (hy5).2)))))) hy9 (by decide) (fun X8 hdX8 => ?_)
    subst hdX8
    refine L_fieldAddr rfl rfl fld270_4 ?_
    refine L_store rfl rfl (by first | (with_reducible repeat (first | exact Pick.here _ | apply Pick.there)); done | (repeat (first | exact Pick.here _ | apply Pick.there))) one265 rfl rfl ?_
    refine L_nil ?_
    refine W_seq ?_
    refine W_region ?_
    have ho := hp; clear hp; obtain ⟨y11, hy11, hp⟩ := bind_any ho; clear ho
    refine L_mk0 Int rfl el49 (fun X10 hdX10 => ?_)
    obtain rfl : GT.dat X10 = y11 := hdX10.trans (Option.some.inj hy11)
    clear hy11 hdX10
    refine L_fieldAddr rfl rfl fld270_5 ?_
    refine L_load rfl rfl (RdC.blk (by first | (with_reducible repeat (first | exact List.Mem.head _ | apply List.Mem.tail)); done | (repeat (first | exact List.Mem.head _ | apply List.Mem.tail)))) one49 rfl ?_
    have ho := hp; clear hp; obtain ⟨y13, hy13, hp⟩ := bind_any ho; clear ho
    refine L_appT (X := X10) (Y := u5_7) rfl rfl rfl el49 rfl rfl (by first | (with_reducible repeat (first | exact Pick.here _ | apply Pick.there)); done | (repeat (first | exact Pick.here _ | apply Pick.there))) (RdT.fst (RdT.snd (RdT.snd (RdT.snd (RdT.snd (RdT.snd (RdT.of (RdT.old h0.2.2.2) (hy5).2))))))) hy13 (by decide) (fun X12 hdX12 => ?_)
    subst hdX12
    refine L_fieldAddr rfl rfl fld270_5 ?_
    refine L_store rfl rfl (by first | (with_reducible repeat (first | exact Pick.here _ | apply Pick.there)); done | (repeat (first | exact Pick.here _ | apply Pick.there))) one49 rfl rfl ?_
    refine L_nil ?_
    refine W_region ?_
    refine L_fieldAddr rfl rfl fld117_3 ?_
    refine L_load rfl rfl (RdC.blk (by first | (with_reducible repeat (first | exact List.Mem.head _ | apply List.Mem.tail)); done | (repeat (first | exact List.Mem.head _ | apply List.Mem.tail)))) one115 rfl ?_
    refine L_loadW rfl rfl (RdC.blk (by first | (with_reducible repeat (first | exact List.Mem.head _ | apply List.Mem.tail)); done | (repeat (first | exact List.Mem.head _ | apply List.Mem.tail)))) (by exact agg270) ?_
    refine L_buildSlice1 rfl rfl el115 rfl (by decide) (by decide) rfl (fun bb39 => ?_)
    have ho := hp; clear hp; obtain ⟨y15, hy15, hp⟩ := bind_any ho; clear ho
    refine L_conv (M' := treeH ((X12, u5_8) : (TL Int) × Bool) :: _) (fun w h => jnL (a := X12) (b := u5_8) (by first | (with_reducible repeat (first | exact Pick.here _ | apply Pick.there)); done | (repeat (first | exact Pick.here _ | apply Pick.there))) h) ?_
    refine L_conv (M' := treeH ((X8, (X12, u5_8)) : (TL T_Id) × (TL Int) × Bool) :: _) (fun w h => jn2 (a := X8) (b := (X12, u5_8)) (by first | (with_reducible repeat (first | exact Pick.here _ | apply Pick.there)); done | (repeat (first | exact Pick.here _ | apply Pick.there))) (by first | (with_reducible repeat (first | exact Pick.here _ | apply Pick.there)); done | (repeat (first | exact Pick.here _ | apply Pick.there))) h) ?_
    refine L_conv (M' := treeH ((u5_5, (X8, (X12, u5_8))) : Int × (TL T_Id) × (TL Int) × Bool) :: _) (fun w h => jnR (a := u5_5) (b := (X8, (X12, u5_8))) (by first | (with_reducible repeat (first | exact Pick.here _ | apply Pick.there)); done | (repeat (first | exact Pick.here _ | apply Pick.there))) h) ?_
    refine L_conv (M' := treeH ((u5_4, (u5_5, (X8, (X12, u5_8)))) : Int × Int × (TL T_Id) × (TL Int) × Bool) :: _) (fun w h => jnR (a := u5_4) (b := (u5_5, (X8, (X12, u5_8)))) (by first | (with_reducible repeat (first | exact Pick.here _ | apply Pick.there)); done | (repeat (first | exact Pick.here _ | apply Pick.there))) h) ?_
    refine L_conv (M' := treeH ((u5_3, (u5_4, (u5_5, (X8, (X12, u5_8))))) : Int × Int × Int × (TL T_Id) × (TL Int) × Bool) :: _) (fun w h => jnR (a := u5_3) (b := (u5_4, (u5_5, (X8, (X12, u5_8))))) (by first | (with_reducible repeat (first | exact Pick.here _ | apply Pick.there)); done | (repeat (first | exact Pick.here _ | apply Pick.there))) h) ?_
    refine L_conv (M' := treeH (((u5_1, u5_2), (u5_3, (u5_4, (u5_5, (X8, (X12, u5_8)))))) : T_Id × Int × Int × Int × (TL T_Id) × (TL Int) × Bool) :: _) (fun w h => jnR (a := (u5_1, u5_2)) (b := (u5_3, (u5_4, (u5_5, (X8, (X12, u5_8)))))) (by first | (with_reducible repeat (first | exact Pick.here _ | apply Pick.there)); done | (repeat (first | exact Pick.here _ | apply Pick.there))) h) ?_
    refine L_app1 (X := v3_1) (((u5_1, u5_2), u5_3, u5_4, u5_5, X8, X12, u5_8) : T_Lead) rfl rfl rfl el115 rfl rfl (by first | (with_reducible repeat (first | exact Pick.here _ | apply Pick.there)); done | (repeat (first | exact Pick.here _ | apply Pick.there))) (by first | (with_reducible repeat (first | exact List.Mem.head _ | apply List.Mem.tail)); done | (repeat (first | exact List.Mem.head _ | apply List.Mem.tail))) (by first | (with_reducible repeat (first | exact Pick.here _ | apply Pick.there)); done | (repeat (first | exact Pick.here _ | apply Pick.there))) hy15 (by decide) (fun X14 hdX14 => ?_)
    subst hdX14
    refine L_fieldAddr rfl rfl fld117_3 ?_
    refine L_store rfl rfl (by first | (with_reducible repeat (first | exact Pick.here _ | apply Pick.there)); done | (repeat (first | exact Pick.here _ | apply Pick.there))) one115 rfl rfl ?_
    refine L_nil ?_
    refine W_region ?_
    refine L_move rfl rfl ?_
    refine L_binV rfl rfl rfl bv_add ?_
    refine L_assign rfl rfl ?_
    refine L_nil ?_
    exact ⟨(IntKind.wrap .i64 (v3_0 + 1), X14), (Sub.cons rfl (Sub.cons rfl (Sub.cons rfl (Sub.cons rfl (Sub.nil _))))), (Arr.sub (MSub.cons (by first | (with_reducible repeat (first | exact Pick.here _ | apply Pick.there)); done | (repeat (first | exact Pick.here _ | apply Pick.there))) (MSub.cons (by first | (with_reducible repeat (first | exact Pick.here _ | apply Pick.there)); done | (repeat (first | exact Pick.here _ | apply Pick.there))) (MSub.cons (by first | (with_reducible repeat (first | exact Pick.here _ | apply Pick.there)); done | (repeat (first | exact Pick.here _ | apply Pick.there))) (MSub.cons (by first | (with_reducible repeat (first | exact Pick.here _ | apply Pick.there)); done | (repeat (first | exact Pick.here _ | apply Pick.there))) (MSub.cons (by first | (with_reducible repeat (first | exact Pick.here _ | apply Pick.there)); done | (repeat (first | exact Pick.here _ | apply Pick.there))) (MSub.nil _))))))), some_eq hp⟩
  · skip
    replace hp := cond_f hc4 hp
    refine W_exit ?_
    have ho := hp; clear hp; obtain ⟨a16, hp, hx_a16⟩ := map_any ho; clear ho
    obtain rfl := hx3 _ hx_a16
    refine W_seq ?_
    refine W_region ?_
    refine L_loadW rfl rfl (RdC.blk (by first | (with_reducible repeat (first | exact List.Mem.head _ | apply List.Mem.tail)); done | (repeat (first | exact List.Mem.head _ | apply List.Mem.tail)))) (by exact agg117) ?_
    refine L_storeW rfl rfl (by first | (with_reducible repeat (first | exact Pick.here _ | apply Pick.there)); done | (repeat (first | exact Pick.here _ | apply Pick.there))) (by exact agg117) (by rfl) (by first | exact allOne rfl | exact fun v hv => GT.one _ v hv | (simp [Value.oneCell', TL.hdr, Value.cells]; done)) ?_
    refine L_nil ?_
    obtain rfl := Option.some.inj hp
    refine W_conv (M' := treeH ((X2, v3_1) : (TL T_Inst) × TL T_Lead) :: _) (fun w h => jn2 (a := X2) (b := v3_1) (by first | (with_reducible repeat (first | exact Pick.here _ | apply Pick.there)); done | (repeat (first | exact Pick.here _ | apply Pick.there))) (by first | (with_reducible repeat (first | exact Pick.here _ | apply Pick.there)); done | (repeat (first | exact Pick.here _ | apply Pick.there))) h) ?_
    refine W_conv (M' := treeH ((a0_2, (X2, v3_1)) : Int × (TL T_Inst) × TL T_Lead) :: _) (fun w h => jnR (a := a0_2) (b := (X2, v3_1)) (by first | (with_reducible repeat (first | exact Pick.here _ | apply Pick.there)); done | (repeat (first | exact Pick.here _ | apply Pick.there))) h) ?_
    refine W_conv (M' := treeH ((a0_1, (a0_2, (X2, v3_1))) : Int × Int × (TL T_Inst) × TL T_Lead) :: _) (fun w h => jnR (a := a0_1) (b := (a0_2, (X2, v3_1))) (by first | (with_reducible repeat (first | exact Pick.here _ | apply Pick.there)); done | (repeat (first | exact Pick.here _ | apply Pick.there))) h) ?_
    refine W_ret ?_
    refine res1 rfl (ResOK.cell rfl (by first | (with_reducible repeat (first | exact List.Mem.head _ | apply List.Mem.tail)); done | (repeat (first | exact List.Mem.head _ | apply List.Mem.tail))) (by exact agg117)) ⟨(a0_1, a0_2, X2, v3_1), rfl, rfl, rfl⟩ (MSub.cons (by first | (with_reducible repeat (first | exact Pick.here _ | apply Pick.there)); done | (repeat (first | exact Pick.here _ | apply Pick.there))) (MSub.nil _))

noncomputable def s_ENodeFall (a0 : D_ENode) : Option (D_ENode × Bool) :=
  Option.bind (s_ENodeOk (a0.1, a0.2.1, a0.2.2.1, a0.2.2.2)) (fun y1 => cond (!y1) (some ((0, 0, ([] : List D_Inst), ([] : List D_Lead)), false)) (Option.bind (s_l9Copy (a0.1, a0.2.1, a0.2.2.1, a0.2.2.2)) (fun y3 => Option.bind (some ([] : List D_Lead)) (fun y5 => some ((y3.1, y3.2.1, y3.2.2.1, y5), true)))))

theorem s_ENodeFall_walk (w : World) (a0 : T_ENode) (h0 : GT.rd w [] a0) (r : D_ENode × Bool) (hp : s_ENodeFall (GT.dat a0) = some r) : Spec Try.prog 76 [.agg (GT.cells a0).toArray].toArray w [] (fun v M => ∃ (x0 : T_ENode) (x1 : Bool), v = .tuple #[.agg (GT.cells x0).toArray, .bool x1] ∧ (GT.dat x0, GT.dat x1) = r ∧ M = [treeH x0]) := by
  obtain ⟨a0_1, a0_2, a0_3, a0_4⟩ := a0
  change Spec _ _ ([Value.agg #[.int .i64 a0_1, .int .i64 a0_2, (TL.hdr a0_3), (TL.hdr a0_4)]] : List Value).toArray w [] _
  refine Spec.intro Try.func76 rfl Try.ntmps76 rfl ?_
  unfold s_ENodeFall at hp
  try dsimp only [dat_pair, dat_int, dat_bool, dat_str] at hp
  refine W_seq ?_
  refine W_region ?_
  refine L_box rfl rfl (fun bk1 => ?_)
  refine L_alloc rfl zero117 (fun bk2 => ?_)
  refine L_assign rfl rfl ?_
  refine L_nil ?_
  refine W_seq ?_
  refine W_seq ?_
  refine W_region ?_
  refine L_loadW rfl rfl (RdC.blk (by first | (with_reducible repeat (first | exact List.Mem.head _ | apply List.Mem.tail)); done | (repeat (first | exact List.Mem.head _ | apply List.Mem.tail)))) (by exact agg117) ?_
  have ho := hp; clear hp; obtain ⟨y1, hy1, hp⟩ := bind_any ho; clear ho
  refine L_callX rfl fn162 rfl (by exact fun w hw => s_ENodeOk_walk w (a0_1, a0_2, a0_3, a0_4) (RdT.now (RdT.pair RdT.int (RdT.pair RdT.int (RdT.pair (RdT.old h0.2.2.1) (RdT.old h0.2.2.2)))) hw) _ hy1) ?_
  refine L_not rfl rfl ?_
  refine L_nil ?_
  refine W_weaken (l' := [(1, _), (2, _), (7, _)]) (Sub.cons rfl (Sub.cons rfl (Sub.cons rfl (Sub.nil _)))) (MSub.refl _) ?_
  refine W_cond rfl (fun hc2 => ?_) (fun hc2 => ?_)
  · skip
    replace hp := cond_t hc2 hp
    refine W_seq ?_
    refine W_region ?_
    refine L_build (xs := []) (cs := [.int .i64 0, .int .i64 0, (TL.hdr (TL.nil T_Inst 0)), (TL.hdr (TL.nil T_Lead 0))]) rfl rfl bld117 rfl ?_
    refine L_storeW rfl rfl (by first | (with_reducible repeat (first | exact Pick.here _ | apply Pick.there)); done | (repeat (first | exact Pick.here _ | apply Pick.there))) (by exact agg117) (by rfl) (by first | exact allOne rfl | exact fun v hv => GT.one _ v hv | (simp [Value.oneCell', TL.hdr, Value.cells]; done)) ?_
    refine L_assign rfl rfl ?_
    refine L_nil ?_
    obtain rfl := Option.some.inj hp
    refine W_conv (M' := treeH (TL.nil T_Inst 0) :: _) (fun w h => addNilT (τ := T_Inst) 0 h) ?_
    refine W_conv (M' := treeH (TL.nil T_Lead 0) :: _) (fun w h => addNilT (τ := T_Lead) 0 h) ?_
    refine W_conv (M' := treeH (((TL.nil T_Inst 0), (TL.nil T_Lead 0)) : (TL T_Inst) × TL T_Lead) :: _) (fun w h => jn2 (a := (TL.nil T_Inst 0)) (b := (TL.nil T_Lead 0)) (by first | (with_reducible repeat (first | exact Pick.here _ | apply Pick.there)); done | (repeat (first | exact Pick.here _ | apply Pick.there))) (by first | (with_reducible repeat (first | exact Pick.here _ | apply Pick.there)); done | (repeat (first | exact Pick.here _ | apply Pick.there))) h) ?_
    refine W_conv (M' := treeH ((0, ((TL.nil T_Inst 0), (TL.nil T_Lead 0))) : Int × (TL T_Inst) × TL T_Lead) :: _) (fun w h => jnR (a := 0) (b := ((TL.nil T_Inst 0), (TL.nil T_Lead 0))) (by first | (with_reducible repeat (first | exact Pick.here _ | apply Pick.there)); done | (repeat (first | exact Pick.here _ | apply Pick.there))) h) ?_
    refine W_conv (M' := treeH ((0, (0, ((TL.nil T_Inst 0), (TL.nil T_Lead 0)))) : Int × Int × (TL T_Inst) × TL T_Lead) :: _) (fun w h => jnR (a := 0) (b := (0, ((TL.nil T_Inst 0), (TL.nil T_Lead 0)))) (by first | (with_reducible repeat (first | exact Pick.here _ | apply Pick.there)); done | (repeat (first | exact Pick.here _ | apply Pick.there))) h) ?_
    refine W_ret ?_
    refine res2 rfl (ResOK.cell rfl (by first | (with_reducible repeat (first | exact List.Mem.head _ | apply List.Mem.tail)); done | (repeat (first | exact List.Mem.head _ | apply List.Mem.tail))) (by exact agg117)) (ResOK.tmp rfl) ⟨(0, 0, (TL.nil T_Inst 0), (TL.nil T_Lead 0)), false, rfl, rfl, rfl⟩ (MSub.cons (by first | (with_reducible repeat (first | exact Pick.here _ | apply Pick.there)); done | (repeat (first | exact Pick.here _ | apply Pick.there))) (MSub.nil _))
  · skip
    replace hp := cond_f hc2 hp
    refine W_skip ?_
    refine W_seq ?_
    refine W_region ?_
    refine L_loadW rfl rfl (RdC.blk (by first | (with_reducible repeat (first | exact List.Mem.head _ | apply List.Mem.tail)); done | (repeat (first | exact List.Mem.head _ | apply List.Mem.tail)))) (by exact agg117) ?_
    have ho := hp; clear hp; obtain ⟨y3, hy3, hp⟩ := bind_any ho; clear ho
    refine L_callR rfl fn163 rfl (by exact fun w hw => s_l9Copy_walk w (a0_1, a0_2, a0_3, a0_4) (RdT.now (RdT.pair RdT.int (RdT.pair RdT.int (RdT.pair (RdT.old h0.2.2.1) (RdT.old h0.2.2.2)))) hw) _ hy3) ?_
    rintro vy3 My3 ⟨y3x0, hvy3, hdy3, rfl⟩
    subst hvy3
    subst hdy3
    obtain ⟨y3x0_1, y3x0_2, y3x0_3, y3x0_4⟩ := y3x0
    simp only [cells_pair, cells_int, cells_bool, cells_str, cells_TL, List.cons_append, List.nil_append]
    try dsimp only [dat_pair, dat_int, dat_bool, dat_str] at hp
    refine L_conv (M' := treeH (y3x0_2, y3x0_3, y3x0_4) :: _) (fun w h => exR (a := y3x0_1) (by first | (with_reducible repeat (first | exact Pick.here _ | apply Pick.there)); done | (repeat (first | exact Pick.here _ | apply Pick.there))) h) ?_
    refine L_conv (M' := treeH (y3x0_3, y3x0_4) :: _) (fun w h => exR (a := y3x0_2) (by first | (with_reducible repeat (first | exact Pick.here _ | apply Pick.there)); done | (repeat (first | exact Pick.here _ | apply Pick.there))) h) ?_
    refine L_conv (M' := treeH y3x0_3 :: treeH y3x0_4 :: _) (fun w h => ex2 (by first | (with_reducible repeat (first | exact Pick.here _ | apply Pick.there)); done | (repeat (first | exact Pick.here _ | apply Pick.there))) h) ?_
    refine L_alloc rfl zero117 (fun bk4 => ?_)
    refine L_storeW rfl rfl (by first | (with_reducible repeat (first | exact Pick.here _ | apply Pick.there)); done | (repeat (first | exact Pick.here _ | apply Pick.there))) (by exact agg117) (by rfl) (by first | exact allOne rfl | exact fun v hv => GT.one _ v hv | (simp [Value.oneCell', TL.hdr, Value.cells]; done)) ?_
    refine L_nil ?_
    refine W_seq ?_
    refine W_region ?_
    have ho := hp; clear hp; obtain ⟨y5, hy5, hp⟩ := bind_any ho; clear ho
    refine L_mk0 T_Lead rfl el115 (fun X4 hdX4 => ?_)
    obtain rfl : GT.dat X4 = y5 := hdX4.trans (Option.some.inj hy5)
    clear hy5 hdX4
    refine L_fieldAddr rfl rfl fld117_3 ?_
    refine L_store rfl rfl (by first | (with_reducible repeat (first | exact Pick.here _ | apply Pick.there)); done | (repeat (first | exact Pick.here _ | apply Pick.there))) one115 rfl rfl ?_
    refine L_nil ?_
    refine W_seq ?_
    refine W_region ?_
    refine L_loadW rfl rfl (RdC.blk (by first | (with_reducible repeat (first | exact List.Mem.head _ | apply List.Mem.tail)); done | (repeat (first | exact List.Mem.head _ | apply List.Mem.tail)))) (by exact agg117) ?_
    refine L_storeW rfl rfl (by first | (with_reducible repeat (first | exact Pick.here _ | apply Pick.there)); done | (repeat (first | exact Pick.here _ | apply Pick.there))) (by exact agg117) (by rfl) (by first | exact allOne rfl | exact fun v hv => GT.one _ v hv | (simp [Value.oneCell', TL.hdr, Value.cells]; done)) ?_
    refine L_assign rfl rfl ?_
    refine L_nil ?_
    obtain rfl := Option.some.inj hp
    refine W_conv (M' := treeH ((y3x0_3, X4) : (TL T_Inst) × TL T_Lead) :: _) (fun w h => jn2 (a := y3x0_3) (b := X4) (by first | (with_reducible repeat (first | exact Pick.here _ | apply Pick.there)); done | (repeat (first | exact Pick.here _ | apply Pick.there))) (by first | (with_reducible repeat (first | exact Pick.here _ | apply Pick.there)); done | (repeat (first | exact Pick.here _ | apply Pick.there))) h) ?_
    refine W_conv (M' := treeH ((y3x0_2, (y3x0_3, X4)) : Int × (TL T_Inst) × TL T_Lead) :: _) (fun w h => jnR (a := y3x0_2) (b := (y3x0_3, X4)) (by first | (with_reducible repeat (first | exact Pick.here _ | apply Pick.there)); done | (repeat (first | exact Pick.here _ | apply Pick.there))) h) ?_
    refine W_conv (M' := treeH ((y3x0_1, (y3x0_2, (y3x0_3, X4))) : Int × Int × (TL T_Inst) × TL T_Lead) :: _) (fun w h => jnR (a := y3x0_1) (b := (y3x0_2, (y3x0_3, X4))) (by first | (with_reducible repeat (first | exact Pick.here _ | apply Pick.there)); done | (repeat (first | exact Pick.here _ | apply Pick.there))) h) ?_
    refine W_ret ?_
    refine res2 rfl (ResOK.cell rfl (by first | (with_reducible repeat (first | exact List.Mem.head _ | apply List.Mem.tail)); done | (repeat (first | exact List.Mem.head _ | apply List.Mem.tail))) (by exact agg117)) (ResOK.tmp rfl) ⟨(y3x0_1, y3x0_2, y3x0_3, X4), true, rfl, rfl, rfl⟩ (MSub.cons (by first | (with_reducible repeat (first | exact Pick.here _ | apply Pick.there)); done | (repeat (first | exact Pick.here _ | apply Pick.there))) (MSub.nil _))

noncomputable def i_ENode_unknown (a0 : D_ENode) (a1 : D_Id) : Option Bool :=
  some ((decide (a1.1 = a0.1)) && (decide (a0.2.1 ≤ a1.2)))

theorem i_ENode_unknown_walk (w : World) (b0_ : Nat) (a0 : T_ENode) (a1 : T_Id) (hbb0_ : Cells w [] b0_ 0 (GT.cells a0)) (h0 : GT.rd w [] a0) (h1 : GT.rd w [] a1) (r : Bool) (hp : i_ENode_unknown (GT.dat a0) (GT.dat a1) = some r) : Spec Try.prog 229 [Value.pointer (some ⟨b0_, 0, none⟩), .agg (GT.cells a1).toArray].toArray w [] (IsV (.bool r)) := by
  obtain ⟨a0_1, a0_2, a0_3, a0_4⟩ := a0
  obtain ⟨a1_1, a1_2⟩ := a1
  change Spec _ _ ([Value.pointer (some ⟨b0_, 0, none⟩), Value.agg #[.int .i64 a1_1, .int .i64 a1_2]] : List Value).toArray w [] _
  refine Spec.intro Try.func229 rfl Try.ntmps229 rfl ?_
  unfold i_ENode_unknown at hp
  try dsimp only [dat_pair, dat_int, dat_bool, dat_str] at hp
  refine W_seq ?_
  refine W_region ?_
  refine L_box rfl rfl (fun bk3 => ?_)
  refine L_assign rfl rfl ?_
  refine L_nil ?_
  refine W_seq ?_
  refine W_D0 [4] mix (by kernel_rfl) rfl ?_
  refine D_fieldAddr GC.none (OpV.t rfl) fld264_0 ?_
  refine D_load GC.none (OpV.t rfl) (fun hg => RdC.blk (by first | (with_reducible repeat (first | exact List.Mem.head _ | apply List.Mem.tail)); done | (repeat (first | exact List.Mem.head _ | apply List.Mem.tail)))) one3 rfl ?_
  refine D_move GC.none (OpV.t rfl) ?_
  refine D_nilCheck GC.none (OpV.t rfl) ?_
  refine D_fieldAddr GC.none (OpV.t rfl) fld117_0 ?_
  refine D_load GC.none (OpV.t rfl) (fun hg => RdC.old hbb0_) one3 rfl ?_
  refine D_bin GC.none (OpV.t rfl) (OpV.t rfl) (fun hg => bv_eql) ?_
  refine D_move GC.none (OpV.t rfl) ?_
  refine D_fieldAddr (GC.some rfl rfl) (OpV.t rfl) fld264_1 ?_
  refine D_load (GC.some rfl rfl) (OpV.s rfl) (fun hg => RdC.blk (by first | (with_reducible repeat (first | exact List.Mem.head _ | apply List.Mem.tail)); done | (repeat (first | exact List.Mem.head _ | apply List.Mem.tail)))) one3 rfl ?_
  refine D_move (GC.some rfl rfl) (OpV.t rfl) ?_
  refine D_nilCheck (GC.some rfl rfl) (OpV.s rfl) ?_
  refine D_fieldAddr (GC.some rfl rfl) (OpV.s rfl) fld117_1 ?_
  refine D_load (GC.some rfl rfl) (OpV.s rfl) (fun hg => RdC.old hbb0_) one3 rfl ?_
  refine D_bin (GC.some rfl rfl) (OpV.s rfl) (OpV.s rfl) (fun hg => bv_geq) ?_
  refine D_and (cy := _) GC.none (OpV.t rfl) (OpV.s rfl) (fun h hb => ⟨h, hb⟩) ?_
  refine D_assign GC.none (OpV.t rfl) ?_
  refine DV_nil ?_
  refine Give_is rfl rfl ?_
  refine Give_drop rfl ?_
  refine Give_drop rfl ?_
  refine Give_drop rfl ?_
  refine Give_drop rfl ?_
  refine Give_drop rfl ?_
  refine Give_drop rfl ?_
  refine Give_drop rfl ?_
  refine Give_drop rfl ?_
  refine Give_drop rfl ?_
  refine Give_drop rfl ?_
  refine Give_drop rfl ?_
  refine Give_drop rfl ?_
  refine Give_drop rfl ?_
  refine Give_drop rfl ?_
  refine Give_drop rfl ?_
  refine Give_drop rfl ?_
  refine Give_nil ?_
  obtain rfl := Option.some.inj hp
  refine W_ret ?_
  refine res1 rfl (ResOK.tmp rfl) ⟨rfl, rfl⟩ (MSub.nil _)

noncomputable def i_areDeps (a0 : List D_Id) (a1 : D_Id) : Option Bool :=
  Option.bind (i_IdsOk a0) (fun y1 => gb y1 (sl_Contains_implIdimplId a0 (a1.1, a1.2)) (fun y2 => some (y1 && (!y2))))

theorem i_areDeps_walk (w : World) (a0 : TL T_Id) (a1 : T_Id) (h0 : GT.rd w [] a0) (h1 : GT.rd w [] a1) (r : Bool) (hp : i_areDeps (GT.dat a0) (GT.dat a1) = some r) : Spec Try.prog 278 [(TL.hdr a0), .agg (GT.cells a1).toArray].toArray w [] (IsV (.bool r)) := by
  obtain ⟨a1_1, a1_2⟩ := a1
  change Spec _ _ ([(TL.hdr a0), Value.agg #[.int .i64 a1_1, .int .i64 a1_2]] : List Value).toArray w [] _
  refine Spec.intro Try.func278 rfl Try.ntmps278 rfl ?_
  unfold i_areDeps at hp
  try dsimp only [dat_pair, dat_int, dat_bool, dat_str] at hp
  refine W_seq ?_
  refine W_region ?_
  refine L_box rfl rfl (fun bk3 => ?_)
  refine L_assign rfl rfl ?_
  refine L_nil ?_
  refine W_seq ?_
  have ho := hp; clear hp; obtain ⟨y1, hy1, hp⟩ := bind_any ho; clear ho
  have ho := hp; clear hp; obtain ⟨y2, hy2, hp⟩ := gb_any ho; clear ho
  refine W_D0 [4] mix (by kernel_rfl) rfl ?_
  refine D_move GC.none (OpV.t rfl) ?_
  refine D_callX GC.none fn318 (OpVs.cons (OpV.t rfl) (OpVs.nil)) (by exact fun hg w F hF hM => i_IdsOk_walk w a0 (RdT.nowS (RdT.old h0) hF hM) _ hy1) ?_
  refine D_move GC.none (OpV.t rfl) ?_
  refine D_move (GC.some rfl rfl) (OpV.t rfl) ?_
  refine D_loadW (GC.some rfl rfl) (OpV.t rfl) (fun hg => RdC.blk (by first | (with_reducible repeat (first | exact List.Mem.head _ | apply List.Mem.tail)); done | (repeat (first | exact List.Mem.head _ | apply List.Mem.tail)))) (by exact agg264) ?_
  refine D_callX (GC.some rfl rfl) fn319 (OpVs.cons (OpV.s rfl) (OpVs.cons (OpV.s rfl) (OpVs.nil))) (by exact fun hg w F hF hM => sl_Contains_implIdimplId_walk w a0 (a1_1, a1_2) (RdT.nowS (RdT.old h0) hF hM) (RdT.nowS (RdT.pair RdT.int RdT.int) hF hM) _ (hy2 hg.2)) ?_
  refine D_not (GC.some rfl rfl) (OpV.s rfl) ?_
  refine D_and (cy := _) GC.none (OpV.t rfl) (OpV.s rfl) (fun h hb => ⟨h, hb⟩) ?_
  refine D_assign GC.none (OpV.t rfl) ?_
  refine DV_nil ?_
  refine Give_is rfl rfl ?_
  refine Give_drop rfl ?_
  refine Give_drop rfl ?_
  refine Give_drop rfl ?_
  refine Give_drop rfl ?_
  refine Give_drop rfl ?_
  refine Give_drop rfl ?_
  refine Give_drop rfl ?_
  refine Give_drop rfl ?_
  refine Give_nil ?_
  obtain rfl := Option.some.inj hp
  refine W_ret ?_
  refine res1 rfl (ResOK.tmp rfl) ⟨rfl, rfl⟩ (MSub.nil _)

noncomputable def i_leadOk (a0 : D_Lead) : Option Bool :=
  whileP (fun s1 : Int => cond (decide (s1 < (a0.2.2.2.2.2.1.length : Int))) (Option.bind (idx a0.2.2.2.2.2.1 s1) (fun y3 => Option.bind (i_isRep y3) (fun y4 => gb ((!(!y4)) && (decide (0 < s1))) (idx a0.2.2.2.2.2.1 (IntKind.wrap .i64 (s1 - 1))) (fun y5 => cond ((!y4) || ((decide (0 < s1)) && (decide (y3 ≤ y5)))) (Option.map .inr (some false)) (some (.inl (IntKind.wrap .i64 (s1 + 1)))))))) (Option.map .inr (Option.bind (i_idOk (a0.1.1, a0.1.2)) (fun y9 => gb y9 (i_within a0.2.1 0 600) (fun y10 => gb (y9 && y10) (i_within a0.2.2.1 1 3) (fun y11 => gb ((y9 && y10) && y11) (i_within a0.2.2.2.1 0 60) (fun y12 => gb (((y9 && y10) && y11) && y12) (i_areDeps a0.2.2.2.2.1 (a0.1.1, a0.1.2)) (fun y13 => some ((((y9 && y10) && y11) && y12) && y13))))))))) 0

theorem i_leadOk_walk (w : World) (a0 : T_Lead) (h0 : GT.rd w [] a0) (r : Bool) (hp : i_leadOk (GT.dat a0) = some r) : Spec Try.prog 230 [.agg (GT.cells a0).toArray].toArray w [] (IsV (.bool r)) := by
  obtain ⟨⟨a0_1, a0_2⟩, a0_3, a0_4, a0_5, a0_6, a0_7, a0_8⟩ := a0
  change Spec _ _ ([Value.agg #[.int .i64 a0_1, .int .i64 a0_2, .int .i64 a0_3, .int .i64 a0_4, .int .i64 a0_5, (TL.hdr a0_6), (TL.hdr a0_7), .bool a0_8]] : List Value).toArray w [] _
  refine Spec.intro Try.func230 rfl Try.ntmps230 rfl ?_
  unfold i_leadOk at hp
  try dsimp only [dat_pair, dat_int, dat_bool, dat_str] at hp
  refine W_seq ?_
  refine W_region ?_
  refine L_box rfl rfl (fun bk1 => ?_)
  refine L_assign rfl rfl ?_
  refine L_nil ?_
  refine W_seq ?_
  refine W_seq ?_
  refine W_region ?_
  refine L_fieldAddr rfl rfl fld270_5 ?_
  refine L_load rfl rfl (RdC.blk (by first | (with_reducible repeat (first | exact List.Mem.head _ | apply List.Mem.tail)); done | (repeat (first | exact List.Mem.head _ | apply List.Mem.tail)))) one49 rfl ?_
  refine L_lenP (X := a0_7) rfl rfl el49 ?_
  refine L_move rfl rfl ?_
  refine L_nil ?_
  refine W_block ?_
  refine W_while (σ := Int) GT.dat (fun (v1_0 : Int) => [(8, .int .i64 v1_0)]) (fun (v1_0 : Int) => []) [(1, _), (6, _), (7, _)] [blk bk1 _ _] 0 hp (Sub.cons rfl (Sub.cons rfl (Sub.cons rfl (Sub.cons rfl (Sub.nil _))))) (MSub.cons (by first | (with_reducible repeat (first | exact Pick.here _ | apply Pick.there)); done | (repeat (first | exact Pick.here _ | apply Pick.there))) (MSub.nil _)) ?_
  clear hp
  rintro v1_0 x1 hp hx1
  try dsimp only [dat_pair, dat_int, dat_bool, dat_str] at hp
  refine W_weaken (l' := [(1, _), (6, _), (7, _), (8, _)]) (Sub.cons rfl (Sub.cons rfl (Sub.cons rfl (Sub.cons rfl (Sub.nil _))))) (M' := [_]) (MSub.cons (by first | (with_reducible repeat (first | exact Pick.here _ | apply Pick.there)); done | (repeat (first | exact Pick.here _ | apply Pick.there))) (MSub.nil _)) ?_
  refine W_seq ?_
  refine W_region ?_
  refine L_binV rfl rfl rfl bv_lss ?_
  refine L_nil ?_
  refine W_seq ?_
  refine W_weaken (l' := [(1, _), (6, _), (7, _), (8, _), (9, _)]) (Sub.cons rfl (Sub.cons rfl (Sub.cons rfl (Sub.cons rfl (Sub.cons rfl (Sub.nil _)))))) (MSub.refl _) ?_
  refine W_cond rfl (fun hc2 => ?_) (fun hc2 => ?_)
  · skip
    replace hp := cond_t hc2 hp
    refine W_skip ?_
    refine W_seq ?_
    refine W_block ?_
    refine W_seq ?_
    refine W_region ?_
    refine L_move rfl rfl ?_
    have ho := hp; clear hp; obtain ⟨u3, hy3, hp⟩ := idx_bind ho; clear ho
    refine L_idxA (X := a0_7) rfl rfl rfl el49 (RdT.old h0.2.2.2.2.2.1) hy3 ?_
    refine L_load0 rfl rfl (RdT.at (RdT.old h0.2.2.2.2.2.1) (hy3).2) one3 rfl ?_
    refine L_assign rfl rfl ?_
    refine L_assign rfl rfl ?_
    refine L_nil ?_
    refine W_seq ?_
    have ho := hp; clear hp; obtain ⟨y4, hy4, hp⟩ := bind_any ho; clear ho
    have ho := hp; clear hp; obtain ⟨u5, hy5, hp⟩ := idx_gb ho; clear ho
    refine W_D0 [29] mix (by kernel_rfl) rfl ?_
    refine D_move GC.none (OpV.t rfl) ?_
    refine D_callX GC.none fn113 (OpVs.cons (OpV.t rfl) (OpVs.nil)) (by exact fun hg w F hF hM => i_isRep_walk w u3  _ hy4) ?_
    refine D_not GC.none (OpV.t rfl) ?_
    refine D_move GC.none (OpV.t rfl) ?_
    refine D_move (GC.some rfl rfl) (OpV.t rfl) ?_
    refine D_bin (GC.some rfl rfl) (OpV.s rfl) OpV.c (fun hg => bv_gtr) ?_
    refine D_move (GC.some rfl rfl) (OpV.s rfl) ?_
    refine D_fieldAddr (GC.some rfl rfl) (OpV.t rfl) fld270_5 ?_
    refine D_load (GC.some rfl rfl) (OpV.s rfl) (fun hg => RdC.blk (by first | (with_reducible repeat (first | exact List.Mem.head _ | apply List.Mem.tail)); done | (repeat (first | exact List.Mem.head _ | apply List.Mem.tail)))) one49 rfl ?_
    refine D_move (GC.some rfl rfl) (OpV.t rfl) ?_
    refine D_bin (GC.some rfl rfl) (OpV.s rfl) OpV.c (fun hg => bv_sub) ?_
    refine D_idxA (X := a0_7) (GC.some rfl rfl) (OpV.s rfl) (OpV.s rfl) el49 (RdT.old h0.2.2.2.2.2.1) (fun hg => hy5 (gand (gnot hg.1.2) hg.2)) ?_
    refine D_load0 (GC.some rfl rfl) (OpV.s rfl) (fun hg => RdT.at (RdT.old h0.2.2.2.2.2.1) (hy5 (gand (gnot hg.1.2) hg.2)).2) one3 rfl ?_
    refine D_move (GC.some rfl rfl) (OpV.t rfl) ?_
    refine D_bin (GC.some rfl rfl) (OpV.s rfl) (OpV.s rfl) (fun hg => bv_geq) ?_
    refine D_and (cy := _) (GC.some rfl rfl) (OpV.s rfl) (OpV.s rfl) (fun h hb => ⟨h, hb⟩) ?_
    refine D_or (cy := _) GC.none (OpV.t rfl) (OpV.s rfl) (fun h hb => ⟨h, hb⟩) ?_
    refine DV_nil ?_
    refine Give_is rfl rfl ?_
    refine Give_drop rfl ?_
    refine Give_drop rfl ?_
    refine Give_drop rfl ?_
    refine Give_drop rfl ?_
    refine Give_drop rfl ?_
    refine Give_drop rfl ?_
    refine Give_drop rfl ?_
    refine Give_drop rfl ?_
    refine Give_drop rfl ?_
    refine Give_drop rfl ?_
    refine Give_drop rfl ?_
    refine Give_drop rfl ?_
    refine Give_drop rfl ?_
    refine Give_drop rfl ?_
    refine Give_drop rfl ?_
    refine Give_drop rfl ?_
    refine Give_nil ?_
    refine W_weaken (l' := [(1, _), (6, _), (7, _), (8, _), (29, _)]) (Sub.cons rfl (Sub.cons rfl (Sub.cons rfl (Sub.cons rfl (Sub.cons rfl (Sub.nil _)))))) (MSub.refl _) ?_
    refine W_cond rfl (fun hc6 => ?_) (fun hc6 => ?_)
    · skip
      replace hp := cond_t hc6 hp
      refine W_seq ?_
      refine W_region ?_
      refine L_assign rfl rfl ?_
      refine L_nil ?_
      have ho := hp; clear hp; obtain ⟨a7, hp, hx_a7⟩ := map_any ho; clear ho
      obtain rfl := hx1 _ hx_a7
      obtain rfl := Option.some.inj hp
      refine W_ret ?_
      refine res1 rfl (ResOK.tmp rfl) ⟨rfl, rfl⟩ (MSub.nil _)
    · skip
      replace hp := cond_f hc6 hp
      refine W_skip ?_
      refine W_region ?_
      refine L_binV rfl rfl rfl bv_add ?_
      refine L_move rfl rfl ?_
      refine L_nil ?_
      exact ⟨IntKind.wrap .i64 (v1_0 + 1), (Sub.cons rfl (Sub.cons rfl (Sub.cons rfl (Sub.cons rfl (Sub.nil _))))), (Arr.sub (MSub.cons (by first | (with_reducible repeat (first | exact Pick.here _ | apply Pick.there)); done | (repeat (first | exact Pick.here _ | apply Pick.there))) (MSub.nil _))), some_eq hp⟩
  · skip
    replace hp := cond_f hc2 hp
    refine W_exit ?_
    have ho := hp; clear hp; obtain ⟨a8, hp, hx_a8⟩ := map_any ho; clear ho
    obtain rfl := hx1 _ hx_a8
    refine W_seq ?_
    have ho := hp; clear hp; obtain ⟨y9, hy9, hp⟩ := bind_any ho; clear ho
    have ho := hp; clear hp; obtain ⟨y10, hy10, hp⟩ := gb_any ho; clear ho
    have ho := hp; clear hp; obtain ⟨y11, hy11, hp⟩ := gb_any ho; clear ho
    have ho := hp; clear hp; obtain ⟨y12, hy12, hp⟩ := gb_any ho; clear ho
    have ho := hp; clear hp; obtain ⟨y13, hy13, hp⟩ := gb_any ho; clear ho
    refine W_D0 [2] mix (by kernel_rfl) rfl ?_
    refine D_fieldAddr GC.none (OpV.t rfl) fld270_0 ?_
    refine D_loadW GC.none (OpV.t rfl) (fun hg => RdC.seg (RdC.blk (by first | (with_reducible repeat (first | exact List.Mem.head _ | apply List.Mem.tail)); done | (repeat (first | exact List.Mem.head _ | apply List.Mem.tail)))) 0 2 rfl) (by exact agg264) ?_
    refine D_callX GC.none fn277 (OpVs.cons (OpV.t rfl) (OpVs.nil)) (by exact fun hg w F hF hM => i_idOk_walk w (a0_1, a0_2) (RdT.nowS (RdT.pair RdT.int RdT.int) hF hM) _ hy9) ?_
    refine D_move GC.none (OpV.t rfl) ?_
    refine D_fieldAddr (GC.some rfl rfl) (OpV.t rfl) fld270_1 ?_
    refine D_load (GC.some rfl rfl) (OpV.s rfl) (fun hg => RdC.blk (by first | (with_reducible repeat (first | exact List.Mem.head _ | apply List.Mem.tail)); done | (repeat (first | exact List.Mem.head _ | apply List.Mem.tail)))) one3 rfl ?_
    refine D_callX (GC.some rfl rfl) fn119 (OpVs.cons (OpV.s rfl) (OpVs.cons OpV.c (OpVs.cons OpV.c (OpVs.nil)))) (by exact fun hg w F hF hM => i_within_walk w a0_3 0 600  _ (hy10 hg.2)) ?_
    refine D_and (cy := _) GC.none (OpV.t rfl) (OpV.s rfl) (fun h hb => ⟨h, hb⟩) ?_
    refine D_move GC.none (OpV.t rfl) ?_
    refine D_fieldAddr (GC.some rfl rfl) (OpV.t rfl) fld270_2 ?_
    refine D_load (GC.some rfl rfl) (OpV.s rfl) (fun hg => RdC.blk (by first | (with_reducible repeat (first | exact List.Mem.head _ | apply List.Mem.tail)); done | (repeat (first | exact List.Mem.head _ | apply List.Mem.tail)))) one3 rfl ?_
    refine D_callX (GC.some rfl rfl) fn119 (OpVs.cons (OpV.s rfl) (OpVs.cons OpV.c (OpVs.cons OpV.c (OpVs.nil)))) (by exact fun hg w F hF hM => i_within_walk w a0_4 1 3  _ (hy11 hg.2)) ?_
    refine D_and (cy := _) GC.none (OpV.t rfl) (OpV.s rfl) (fun h hb => ⟨h, hb⟩) ?_
    refine D_move GC.none (OpV.t rfl) ?_
    refine D_fieldAddr (GC.some rfl rfl) (OpV.t rfl) fld270_3 ?_
    refine D_load (GC.some rfl rfl) (OpV.s rfl) (fun hg => RdC.blk (by first | (with_reducible repeat (first | exact List.Mem.head _ | apply List.Mem.tail)); done | (repeat (first | exact List.Mem.head _ | apply List.Mem.tail)))) one3 rfl ?_
    refine D_callX (GC.some rfl rfl) fn119 (OpVs.cons (OpV.s rfl) (OpVs.cons OpV.c (OpVs.cons OpV.c (OpVs.nil)))) (by exact fun hg w F hF hM => i_within_walk w a0_5 0 60  _ (hy12 hg.2)) ?_
    refine D_and (cy := _) GC.none (OpV.t rfl) (OpV.s rfl) (fun h hb => ⟨h, hb⟩) ?_
    refine D_move GC.none (OpV.t rfl) ?_
    refine D_fieldAddr (GC.some rfl rfl) (OpV.t rfl) fld270_4 ?_
    refine D_load (GC.some rfl rfl) (OpV.s rfl) (fun hg => RdC.blk (by first | (with_reducible repeat (first | exact List.Mem.head _ | apply List.Mem.tail)); done | (repeat (first | exact List.Mem.head _ | apply List.Mem.tail)))) one265 rfl ?_
    refine D_fieldAddr (GC.some rfl rfl) (OpV.t rfl) fld270_0 ?_
    refine D_loadW (GC.some rfl rfl) (OpV.s rfl) (fun hg => RdC.seg (RdC.blk (by first | (with_reducible repeat (first | exact List.Mem.head _ | apply List.Mem.tail)); done | (repeat (first | exact List.Mem.head _ | apply List.Mem.tail)))) 0 2 rfl) (by exact agg264) ?_
    refine D_callX (GC.some rfl rfl) fn278 (OpVs.cons (OpV.s rfl) (OpVs.cons (OpV.s rfl) (OpVs.nil))) (by exact fun hg w F hF hM => i_areDeps_walk w a0_6 (a0_1, a0_2) (RdT.nowS (RdT.old h0.2.2.2.2.1) hF hM) (RdT.nowS (RdT.pair RdT.int RdT.int) hF hM) _ (hy13 hg.2)) ?_
    refine D_and (cy := _) GC.none (OpV.t rfl) (OpV.s rfl) (fun h hb => ⟨h, hb⟩) ?_
    refine D_assign GC.none (OpV.t rfl) ?_
    refine DV_nil ?_
    refine Give_is rfl rfl ?_
    refine Give_drop rfl ?_
    refine Give_drop rfl ?_
    refine Give_drop rfl ?_
    refine Give_drop rfl ?_
    refine Give_drop rfl ?_
    refine Give_drop rfl ?_
    refine Give_drop rfl ?_
    refine Give_drop rfl ?_
    refine Give_drop rfl ?_
    refine Give_drop rfl ?_
    refine Give_drop rfl ?_
    refine Give_drop rfl ?_
    refine Give_drop rfl ?_
    refine Give_drop rfl ?_
    refine Give_drop rfl ?_
    refine Give_drop rfl ?_
    refine Give_drop rfl ?_
    refine Give_drop rfl ?_
    refine Give_drop rfl ?_
    refine Give_drop rfl ?_
    refine Give_drop rfl ?_
    refine Give_drop rfl ?_
    refine Give_drop rfl ?_
    refine Give_drop rfl ?_
    refine Give_drop rfl ?_
    refine Give_nil ?_
    obtain rfl := Option.some.inj hp
    refine W_ret ?_
    refine res1 rfl (ResOK.tmp rfl) ⟨rfl, rfl⟩ (MSub.nil _)

noncomputable def i_ENode_lead_c1 (a0 : D_Lead) (c0 : D_Id) : Option Bool :=
  some (decide (a0.1.1 = c0.1) && (decide (a0.1.2 = c0.2) && true))

theorem i_ENode_lead_c1_walk (w : World) (a0 : T_Lead) (b0 : Nat) (c0 : T_Id) (h0 : GT.rd w [] a0) (hb0 : Cells w [] b0 0 (GT.cells c0)) (hc0 : GT.rd w [] c0) (r : Bool) (hp : i_ENode_lead_c1 (GT.dat a0) (GT.dat c0) = some r) : Spec Try.prog 280 ([(.agg (GT.cells a0).toArray : Value)] ++ [Value.pointer (some ⟨b0, 0, none⟩)]).toArray w [] (IsV (.bool r)) := by
  obtain ⟨⟨a0_1, a0_2⟩, a0_3, a0_4, a0_5, a0_6, a0_7, a0_8⟩ := a0
  obtain ⟨c0_1, c0_2⟩ := c0
  change Spec _ _ ([Value.agg #[.int .i64 a0_1, .int .i64 a0_2, .int .i64 a0_3, .int .i64 a0_4, .int .i64 a0_5, (TL.hdr a0_6), (TL.hdr a0_7), .bool a0_8], Value.pointer (some ⟨b0, 0, none⟩)] : List Value).toArray w [] _
  refine Spec.intro Try.func280 rfl Try.ntmps280 rfl ?_
  unfold i_ENode_lead_c1 at hp
  try dsimp only [dat_pair, dat_int, dat_bool, dat_str] at hp
  refine W_seq ?_
  refine W_region ?_
  refine L_box rfl rfl (fun bk2 => ?_)
  refine L_assign rfl rfl ?_
  refine L_nil ?_
  refine W_seq ?_
  refine W_region ?_
  refine L_fieldAddr rfl rfl fld270_0 ?_
  refine L_loadW rfl rfl (RdC.seg (RdC.blk (by first | (with_reducible repeat (first | exact List.Mem.head _ | apply List.Mem.tail)); done | (repeat (first | exact List.Mem.head _ | apply List.Mem.tail)))) 0 2 rfl) (by exact agg264) ?_
  refine L_loadW rfl rfl (RdC.old hb0) (by exact agg264) ?_
  refine L_binV rfl rfl rfl (bv_aeql eqsh264 (EqS.consI one3 und3 rfl rfl (EqS.consI one3 und3 rfl rfl EqS.nil))) ?_
  refine L_assign rfl rfl ?_
  refine L_nil ?_
  obtain rfl := Option.some.inj hp
  refine W_ret ?_
  refine res1 rfl (ResOK.tmp rfl) ⟨rfl, rfl⟩ (MSub.nil _)

noncomputable def sl_IndexFunc_implLeadimplLead (a0 : List D_Lead) (a1 : D_Lead → Option Bool) : Option Int :=
  whileP (fun s1 : Int => cond (decide (s1 < (a0.length : Int))) (Option.bind (idx a0 s1) (fun y3 => Option.bind (a1 ((y3.1.1, y3.1.2), y3.2.1, y3.2.2.1, y3.2.2.2.1, y3.2.2.2.2.1, y3.2.2.2.2.2.1, y3.2.2.2.2.2.2)) (fun y4 => cond y4 (Option.map .inr (some s1)) (some (.inl (IntKind.wrap .i64 (s1 + 1))))))) (Option.map .inr (some (-1)))) 0

theorem sl_IndexFunc_implLeadimplLead_walk (w : World) (a0 : TL T_Lead) (f1 : Nat) (cs1 : List Value) (a1 : D_Lead → Option Bool) (h0 : GT.rd w [] a0) (hf1 : IsFn Try.prog f1) (hk1 : ∀ (w' : World) (F : List HP) (u0 : T_Lead) (v : Bool), Holds w [] F w' → GT.rd w' [] u0 → a1 (GT.dat u0) = some v → Spec Try.prog f1 ([Value.agg (GT.cells u0).toArray] ++ cs1).toArray w' [] (IsV (.bool v))) (r : Int) (hp : sl_IndexFunc_implLeadimplLead (GT.dat a0) a1 = some r) : Spec Try.prog 279 [(TL.hdr a0), .func (.func f1) #[] cs1.toArray].toArray w [] (IsV (.int .i64 r)) := by
  refine Spec.intro Try.func279 rfl Try.ntmps279 rfl ?_
  unfold sl_IndexFunc_implLeadimplLead at hp
  try dsimp only [dat_pair, dat_int, dat_bool, dat_str] at hp
  refine W_seq ?_
  refine W_region ?_
  refine L_assign rfl rfl ?_
  refine L_nil ?_
  refine W_seq ?_
  refine W_seq ?_
  refine W_region ?_
  refine L_move rfl rfl ?_
  refine L_lenP (X := a0) rfl rfl el115 ?_
  refine L_move rfl rfl ?_
  refine L_nil ?_
  refine W_block ?_
  refine W_while (σ := Int) GT.dat (fun (v1_0 : Int) => [(8, .int .i64 v1_0)]) (fun (v1_0 : Int) => []) [(0, _), (1, _), (7, _)] [] 0 hp (Sub.cons rfl (Sub.cons rfl (Sub.cons rfl (Sub.cons rfl (Sub.nil _))))) (MSub.nil _) ?_
  clear hp
  rintro v1_0 x1 hp hx1
  try dsimp only [dat_pair, dat_int, dat_bool, dat_str] at hp
  refine W_weaken (l' := [(0, _), (1, _), (7, _), (8, _)]) (Sub.cons rfl (Sub.cons rfl (Sub.cons rfl (Sub.cons rfl (Sub.nil _))))) (M' := []) (MSub.nil _) ?_
  refine W_seq ?_
  refine W_region ?_
  refine L_binV rfl rfl rfl bv_lss ?_
  refine L_nil ?_
  refine W_seq ?_
  refine W_weaken (l' := [(0, _), (1, _), (7, _), (8, _), (9, _)]) (Sub.cons rfl (Sub.cons rfl (Sub.cons rfl (Sub.cons rfl (Sub.cons rfl (Sub.nil _)))))) (MSub.refl _) ?_
  refine W_cond rfl (fun hc2 => ?_) (fun hc2 => ?_)
  · skip
    replace hp := cond_t hc2 hp
    refine W_skip ?_
    refine W_seq ?_
    refine W_block ?_
    refine W_seq ?_
    refine W_region ?_
    refine L_move rfl rfl ?_
    refine L_assign rfl rfl ?_
    refine L_nil ?_
    refine W_seq ?_
    refine W_region ?_
    refine L_move rfl rfl ?_
    refine L_move rfl rfl ?_
    refine L_move rfl rfl ?_
    have ho := hp; clear hp; obtain ⟨u3, hy3, hp⟩ := idx_bind ho; clear ho
    obtain ⟨⟨u3_1, u3_2⟩, u3_3, u3_4, u3_5, u3_6, u3_7, u3_8⟩ := u3
    refine L_idxA (X := a0) rfl rfl rfl el115 (RdT.old h0) hy3 ?_
    refine L_loadW rfl rfl (RdT.at (RdT.old h0) (hy3).2) (by exact agg270) ?_
    have ho := hp; clear hp; obtain ⟨y4, hy4, hp⟩ := bind_any ho; clear ho
    refine L_callVX rfl rfl hf1 rfl (by exact fun w hw => hk1 w _ ((u3_1, u3_2), u3_3, u3_4, u3_5, u3_6, u3_7, u3_8) y4 hw (RdT.now (RdT.pair (RdT.pair RdT.int RdT.int) (RdT.pair RdT.int (RdT.pair RdT.int (RdT.pair RdT.int (RdT.pair (RdT.fst (RdT.snd (RdT.snd (RdT.snd (RdT.snd (RdT.of (RdT.old h0) (hy3).2)))))) (RdT.pair (RdT.fst (RdT.snd (RdT.snd (RdT.snd (RdT.snd (RdT.snd (RdT.of (RdT.old h0) (hy3).2))))))) RdT.bool)))))) hw) hy4) ?_
    refine L_nil ?_
    refine W_weaken (l' := [(0, _), (1, _), (5, _), (7, _), (8, _), (16, _)]) (Sub.cons rfl (Sub.cons rfl (Sub.cons rfl (Sub.cons rfl (Sub.cons rfl (Sub.cons rfl (Sub.nil _))))))) (MSub.refl _) ?_
    refine W_cond rfl (fun hc5 => ?_) (fun hc5 => ?_)
    · skip
      replace hp := cond_t hc5 hp
      refine W_seq ?_
      refine W_region ?_
      refine L_move rfl rfl ?_
      refine L_assign rfl rfl ?_
      refine L_nil ?_
      have ho := hp; clear hp; obtain ⟨a6, hp, hx_a6⟩ := map_any ho; clear ho
      obtain rfl := hx1 _ hx_a6
      obtain rfl := Option.some.inj hp
      refine W_ret ?_
      refine res1 rfl (ResOK.tmp rfl) ⟨rfl, rfl⟩ (MSub.nil _)
    · skip
      replace hp := cond_f hc5 hp
      refine W_skip ?_
      refine W_region ?_
      refine L_binV rfl rfl rfl bv_add ?_
      refine L_move rfl rfl ?_
      refine L_nil ?_
      exact ⟨IntKind.wrap .i64 (v1_0 + 1), (Sub.cons rfl (Sub.cons rfl (Sub.cons rfl (Sub.cons rfl (Sub.nil _))))), (Arr.sub (MSub.nil _)), some_eq hp⟩
  · skip
    replace hp := cond_f hc2 hp
    refine W_exit ?_
    have ho := hp; clear hp; obtain ⟨a7, hp, hx_a7⟩ := map_any ho; clear ho
    obtain rfl := hx1 _ hx_a7
    refine W_seq ?_
    refine W_region ?_
    refine L_assign rfl rfl ?_
    refine L_nil ?_
    obtain rfl := Option.some.inj hp
    refine W_ret ?_
    refine res1 rfl (ResOK.tmp rfl) ⟨rfl, rfl⟩ (MSub.nil _)

noncomputable def i_ENode_lead (a0 : D_ENode) (a1 : D_Id) : Option Int :=
  Option.bind (sl_IndexFunc_implLeadimplLead a0.2.2.2 (fun z0 => i_ENode_lead_c1 z0 (a1.1, a1.2))) (fun y1 => some y1)

theorem i_ENode_lead_walk (w : World) (b0_ : Nat) (a0 : T_ENode) (a1 : T_Id) (hbb0_ : Cells w [] b0_ 0 (GT.cells a0)) (h0 : GT.rd w [] a0) (h1 : GT.rd w [] a1) (r : Int) (hp : i_ENode_lead (GT.dat a0) (GT.dat a1) = some r) : Spec Try.prog 231 [Value.pointer (some ⟨b0_, 0, none⟩), .agg (GT.cells a1).toArray].toArray w [] (IsV (.int .i64 r)) := by
  obtain ⟨a0_1, a0_2, a0_3, a0_4⟩ := a0
  obtain ⟨a1_1, a1_2⟩ := a1
  change Spec _ _ ([Value.pointer (some ⟨b0_, 0, none⟩), Value.agg #[.int .i64 a1_1, .int .i64 a1_2]] : List Value).toArray w [] _
  refine Spec.intro Try.func231 rfl Try.ntmps231 rfl ?_
  unfold i_ENode_lead at hp
  try dsimp only [dat_pair, dat_int, dat_bool, dat_str] at hp
  refine W_seq ?_
  refine W_region ?_
  refine L_box rfl rfl (fun bk3 => ?_)
  refine L_assign rfl rfl ?_
  refine L_nil ?_
  refine W_seq ?_
  refine W_region ?_
  refine L_move rfl rfl ?_
  refine L_nilCheck rfl rfl ?_
  refine L_fieldAddr rfl rfl fld117_3 ?_
  refine L_load rfl rfl (RdC.old hbb0_) one115 rfl ?_
  refine L_makeFunc (fs := []) (cs := [.tmp 3]) rfl rfl rfl ?_
  have ho := hp; clear hp; obtain ⟨y1, hy1, hp⟩ := bind_any ho; clear ho
  refine L_callX rfl fn279 rfl (by exact fun w hw => sl_IndexFunc_implLeadimplLead_walk w a0_4 280 [Value.pointer (some ⟨bk3, 0, none⟩)] (fun z0 => i_ENode_lead_c1 z0 (a1_1, a1_2)) (RdT.now (RdT.old h0.2.2.2) hw) fn280 (fun w' F u0 v hF hu0 hv => i_ENode_lead_c1_walk w' u0 bk3 (a1_1, a1_2) hu0 ((cells_of_blk (by first | (with_reducible repeat (first | exact List.Mem.head _ | apply List.Mem.tail)); done | (repeat (first | exact List.Mem.head _ | apply List.Mem.tail))) hw.sees).carry hF) (rd_carry (RdT.now (RdT.pair RdT.int RdT.int) hw) hF) v hv) _ hy1) ?_
  refine L_assign rfl rfl ?_
  refine L_nil ?_
  obtain rfl := Option.some.inj hp
  refine W_ret ?_
  refine res1 rfl (ResOK.tmp rfl) ⟨rfl, rfl⟩ (MSub.nil _)

noncomputable def i_ENodeOk (a0 : D_ENode) : Option Bool :=
  Option.bind (i_isRep a0.1) (fun y1 => gb (!(!y1)) (i_within a0.2.1 1 7) (fun y2 => gb (!((!y1) || (!y2))) (i_InstsOk a0.2.2.1) (fun y3 => cond ((((!y1) || (!y2)) || (!y3)) || (decide (8 < (a0.2.2.2.length : Int)))) (some false) (whileP (fun s5 : Int => cond (decide (s5 < (a0.2.2.1.length : Int))) (Option.bind (idx a0.2.2.1 s5) (fun y7 => Option.bind (i_ENode_unknown (a0.1, a0.2.1, a0.2.2.1, a0.2.2.2) (y7.1.1, y7.1.2)) (fun y8 => cond y8 (Option.map .inr (some false)) (some (.inl (IntKind.wrap .i64 (s5 + 1))))))) (Option.map .inr (whileP (fun s12 : Int => cond (decide (s12 < (a0.2.2.2.length : Int))) (Option.bind (idx a0.2.2.2 s12) (fun y14 => Option.bind (i_leadOk ((y14.1.1, y14.1.2), y14.2.1, y14.2.2.1, y14.2.2.2.1, y14.2.2.2.2.1, y14.2.2.2.2.2.1, y14.2.2.2.2.2.2)) (fun y15 => gb (!(!y15)) (i_ENode_lead (a0.1, a0.2.1, a0.2.2.1, a0.2.2.2) (y14.1.1, y14.1.2)) (fun y16 => cond ((!y15) || (!decide (y16 = s12))) (Option.map .inr (some false)) (some (.inl (IntKind.wrap .i64 (s12 + 1)))))))) (Option.map .inr (some true))) 0))) 0))))

theorem i_ENodeOk_walk (w : World) (a0 : T_ENode) (h0 : GT.rd w [] a0) (r : Bool) (hp : i_ENodeOk (GT.dat a0) = some r) : Spec Try.prog 166 [.agg (GT.cells a0).toArray].toArray w [] (IsV (.bool r)) := by
  obtain ⟨a0_1, a0_2, a0_3, a0_4⟩ := a0
  change Spec _ _ ([Value.agg #[.int .i64 a0_1, .int .i64 a0_2, (TL.hdr a0_3), (TL.hdr a0_4)]] : List Value).toArray w [] _
  refine Spec.intro Try.func166 rfl Try.ntmps166 rfl ?_
  unfold i_ENodeOk at hp
  try dsimp only [dat_pair, dat_int, dat_bool, dat_str] at hp
  refine W_seq ?_
  refine W_region ?_
  refine L_box rfl rfl (fun bk1 => ?_)
  refine L_assign rfl rfl ?_
  refine L_nil ?_
  refine W_seq ?_
  refine W_seq ?_
  have ho := hp; clear hp; obtain ⟨y1, hy1, hp⟩ := bind_any ho; clear ho
  have ho := hp; clear hp; obtain ⟨y2, hy2, hp⟩ := gb_any ho; clear ho
  have ho := hp; clear hp; obtain ⟨y3, hy3, hp⟩ := gb_any ho; clear ho
  refine W_D0 [28] mix (by kernel_rfl) rfl ?_
  refine D_fieldAddr GC.none (OpV.t rfl) fld117_0 ?_
  refine D_load GC.none (OpV.t rfl) (fun hg => RdC.blk (by first | (with_reducible repeat (first | exact List.Mem.head _ | apply List.Mem.tail)); done | (repeat (first | exact List.Mem.head _ | apply List.Mem.tail)))) one3 rfl ?_
  refine D_callX GC.none fn113 (OpVs.cons (OpV.t rfl) (OpVs.nil)) (by exact fun hg w F hF hM => i_isRep_walk w a0_1  _ hy1) ?_
  refine D_not GC.none (OpV.t rfl) ?_
  refine D_move GC.none (OpV.t rfl) ?_
  refine D_fieldAddr (GC.some rfl rfl) (OpV.t rfl) fld117_1 ?_
  refine D_load (GC.some rfl rfl) (OpV.s rfl) (fun hg => RdC.blk (by first | (with_reducible repeat (first | exact List.Mem.head _ | apply List.Mem.tail)); done | (repeat (first | exact List.Mem.head _ | apply List.Mem.tail)))) one3 rfl ?_
  refine D_callX (GC.some rfl rfl) fn119 (OpVs.cons (OpV.s rfl) (OpVs.cons OpV.c (OpVs.cons OpV.c (OpVs.nil)))) (by exact fun hg w F hF hM => i_within_walk w a0_2 1 7  _ (hy2 (gnot hg.2))) ?_
  refine D_not (GC.some rfl rfl) (OpV.s rfl) ?_
  refine D_or (cy := _) GC.none (OpV.t rfl) (OpV.s rfl) (fun h hb => ⟨h, hb⟩) ?_
  refine D_move GC.none (OpV.t rfl) ?_
  refine D_fieldAddr (GC.some rfl rfl) (OpV.t rfl) fld117_2 ?_
  refine D_load (GC.some rfl rfl) (OpV.s rfl) (fun hg => RdC.blk (by first | (with_reducible repeat (first | exact List.Mem.head _ | apply List.Mem.tail)); done | (repeat (first | exact List.Mem.head _ | apply List.Mem.tail)))) one114 rfl ?_
  refine D_callX (GC.some rfl rfl) fn228 (OpVs.cons (OpV.s rfl) (OpVs.nil)) (by exact fun hg w F hF hM => i_InstsOk_walk w a0_3 (RdT.nowS (RdT.old h0.2.2.1) hF hM) _ (hy3 (gnot hg.2))) ?_
  refine D_not (GC.some rfl rfl) (OpV.s rfl) ?_
  refine D_or (cy := _) GC.none (OpV.t rfl) (OpV.s rfl) (fun h hb => ⟨h, hb⟩) ?_
  refine D_move GC.none (OpV.t rfl) ?_
  refine D_fieldAddr (GC.some rfl rfl) (OpV.t rfl) fld117_3 ?_
  refine D_load (GC.some rfl rfl) (OpV.s rfl) (fun hg => RdC.blk (by first | (with_reducible repeat (first | exact List.Mem.head _ | apply List.Mem.tail)); done | (repeat (first | exact List.Mem.head _ | apply List.Mem.tail)))) one115 rfl ?_
  refine D_lenP (X := a0_4) (GC.some rfl rfl) (OpV.s rfl) el115 ?_
  refine D_bin (GC.some rfl rfl) (OpV.s rfl) OpV.c (fun hg => bv_gtr) ?_
  refine D_or (cy := _) GC.none (OpV.t rfl) (OpV.s rfl) (fun h hb => ⟨h, hb⟩) ?_
  refine DV_nil ?_
  refine Give_is rfl rfl ?_
  refine Give_drop rfl ?_
  refine Give_drop rfl ?_
  refine Give_drop rfl ?_
  refine Give_drop rfl ?_
  refine Give_drop rfl ?_
  refine Give_drop rfl ?_
  refine Give_drop rfl ?_
  refine Give_drop rfl ?_
  refine Give_drop rfl ?_
  refine Give_drop rfl ?_
  refine Give_drop rfl ?_
  refine Give_drop rfl ?_
  refine Give_drop rfl ?_
  refine Give_drop rfl ?_
  refine Give_drop rfl ?_
  refine Give_drop rfl ?_
  refine Give_drop rfl ?_
  refine Give_drop rfl ?_
  refine Give_drop rfl ?_
  refine Give_drop rfl ?_
  refine Give_drop rfl ?_
  refine Give_nil ?_
  refine W_weaken (l' := [(1, _), (28, _)]) (Sub.cons rfl (Sub.cons rfl (Sub.nil _))) (MSub.refl _) ?_
  refine W_cond rfl (fun hc4 => ?_) (fun hc4 => ?_)
  · skip
    replace hp := cond_t hc4 hp
    refine W_seq ?_
    refine W_region ?_
    refine L_assign rfl rfl ?_
    refine L_nil ?_
    obtain rfl := Option.some.inj hp
    refine W_ret ?_
    refine res1 rfl (ResOK.tmp rfl) ⟨rfl, rfl⟩ (MSub.nil _)
  · skip
    replace hp := cond_f hc4 hp
    refine W_skip ?_
    refine W_seq ?_
    refine W_seq ?_
    refine W_region ?_
    refine L_fieldAddr rfl rfl fld117_2 ?_
    refine L_load rfl rfl (RdC.blk (by first | (with_reducible repeat (first | exact List.Mem.head _ | apply List.Mem.tail)); done | (repeat (first | exact List.Mem.head _ | apply List.Mem.tail)))) one114 rfl ?_
    refine L_lenP (X := a0_3) rfl rfl el114 ?_
    refine L_move rfl rfl ?_
    refine L_nil ?_
    refine W_block ?_
    refine W_while (σ := Int) GT.dat (fun (v5_0 : Int) => [(32, .int .i64 v5_0)]) (fun (v5_0 : Int) => []) [(1, _), (30, _), (31, _)] [blk bk1 _ _] 0 hp (Sub.cons rfl (Sub.cons rfl (Sub.cons rfl (Sub.cons rfl (Sub.nil _))))) (MSub.cons (by first | (with_reducible repeat (first | exact Pick.here _ | apply Pick.there)); done | (repeat (first | exact Pick.here _ | apply Pick.there))) (MSub.nil _)) ?_
    clear hp
    rintro v5_0 x5 hp hx5
    try dsimp only [dat_pair, dat_int, dat_bool, dat_str] at hp
    refine W_weaken (l' := [(1, _), (30, _), (31, _), (32, _)]) (Sub.cons rfl (Sub.cons rfl (Sub.cons rfl (Sub.cons rfl (Sub.nil _))))) (M' := [_]) (MSub.cons (by first | (with_reducible repeat (first | exact Pick.here _ | apply Pick.there)); done | (repeat (first | exact Pick.here _ | apply Pick.there))) (MSub.nil _)) ?_
    refine W_seq ?_
    refine W_region ?_
    refine L_binV rfl rfl rfl bv_lss ?_
    refine L_nil ?_
    refine W_seq ?_
    refine W_weaken (l' := [(1, _), (30, _), (31, _), (32, _), (33, _)]) (Sub.cons rfl (Sub.cons rfl (Sub.cons rfl (Sub.cons rfl (Sub.cons rfl (Sub.nil _)))))) (MSub.refl _) ?_
    refine W_cond rfl (fun hc6 => ?_) (fun hc6 => ?_)
    · skip
      replace hp := cond_t hc6 hp
      refine W_skip ?_
      refine W_seq ?_
      refine W_block ?_
      refine W_seq ?_
      refine W_region ?_
      have ho := hp; clear hp; obtain ⟨u7, hy7, hp⟩ := idx_bind ho; clear ho
      obtain ⟨⟨u7_1, u7_2⟩, u7_3, u7_4, u7_5, ⟨u7_6, u7_7, u7_8, u7_9, u7_10, u7_11, u7_12, u7_13⟩, u7_14, u7_15, u7_16⟩ := u7
      refine L_idxA (X := a0_3) rfl rfl rfl el114 (RdT.old h0.2.2.1) hy7 ?_
      refine L_loadW rfl rfl (RdT.at (RdT.old h0.2.2.1) (hy7).2) (by exact agg267) ?_
      refine L_alloc rfl zero267 (fun bk4 => ?_)
      refine L_storeW rfl rfl (by first | (with_reducible repeat (first | exact Pick.here _ | apply Pick.there)); done | (repeat (first | exact Pick.here _ | apply Pick.there))) (by exact agg267) (by rfl) (by first | exact allOne rfl | exact fun v hv => GT.one _ v hv | (simp [Value.oneCell', TL.hdr, Value.cells]; done)) ?_
      refine L_nil ?_
      refine W_seq ?_
      refine W_region ?_
      refine L_fieldAddr rfl rfl fld267_0 ?_
      refine L_loadW rfl rfl (RdC.seg (RdC.blk (by first | (with_reducible repeat (first | exact List.Mem.head _ | apply List.Mem.tail)); done | (repeat (first | exact List.Mem.head _ | apply List.Mem.tail)))) 0 2 rfl) (by exact agg264) ?_
      have ho := hp; clear hp; obtain ⟨y8, hy8, hp⟩ := bind_any ho; clear ho
      refine L_callX rfl fn229 rfl (by exact fun w hw => i_ENode_unknown_walk w bk1 (a0_1, a0_2, a0_3, a0_4) (u7_1, u7_2) (cells_of_blk (by first | (with_reducible repeat (first | exact List.Mem.head _ | apply List.Mem.tail)); done | (repeat (first | exact List.Mem.head _ | apply List.Mem.tail))) hw.sees) (RdT.now (RdT.pair RdT.int (RdT.pair RdT.int (RdT.pair (RdT.old h0.2.2.1) (RdT.old h0.2.2.2)))) hw) (RdT.now (RdT.pair RdT.int RdT.int) hw) _ hy8) ?_
      refine L_nil ?_
      refine W_weaken (l' := [(1, _), (30, _), (31, _), (32, _), (38, _)]) (Sub.cons rfl (Sub.cons rfl (Sub.cons rfl (Sub.cons rfl (Sub.cons rfl (Sub.nil _)))))) (MSub.refl _) ?_
      refine W_cond rfl (fun hc9 => ?_) (fun hc9 => ?_)
      · skip
        replace hp := cond_t hc9 hp
        refine W_seq ?_
        refine W_region ?_
        refine L_assign rfl rfl ?_
        refine L_nil ?_
        have ho := hp; clear hp; obtain ⟨a10, hp, hx_a10⟩ := map_any ho; clear ho
        obtain rfl := hx5 _ hx_a10
        obtain rfl := Option.some.inj hp
        refine W_ret ?_
        refine res1 rfl (ResOK.tmp rfl) ⟨rfl, rfl⟩ (MSub.nil _)
      · skip
        replace hp := cond_f hc9 hp
        refine W_skip ?_
        refine W_region ?_
        refine L_binV rfl rfl rfl bv_add ?_
        refine L_move rfl rfl ?_
        refine L_nil ?_
        exact ⟨IntKind.wrap .i64 (v5_0 + 1), (Sub.cons rfl (Sub.cons rfl (Sub.cons rfl (Sub.cons rfl (Sub.nil _))))), (Arr.sub (MSub.cons (by first | (with_reducible repeat (first | exact Pick.here _ | apply Pick.there)); done | (repeat (first | exact Pick.here _ | apply Pick.there))) (MSub.nil _))), some_eq hp⟩
    · skip
      replace hp := cond_f hc6 hp
      refine W_exit ?_
      have ho := hp; clear hp; obtain ⟨a11, hp, hx_a11⟩ := map_any ho; clear ho
      obtain rfl := hx5 _ hx_a11
      refine W_seq ?_
      refine W_seq ?_
      refine W_region ?_
      refine L_fieldAddr rfl rfl fld117_3 ?_
      refine L_load rfl rfl (RdC.blk (by first | (with_reducible repeat (first | exact List.Mem.head _ | apply List.Mem.tail)); done | (repeat (first | exact List.Mem.head _ | apply List.Mem.tail)))) one115 rfl ?_
      refine L_lenP (X := a0_4) rfl rfl el115 ?_
      refine L_move rfl rfl ?_
      refine L_nil ?_
      refine W_block ?_
      refine W_while (σ := Int) GT.dat (fun (v12_0 : Int) => [(43, .int .i64 v12_0)]) (fun (v12_0 : Int) => []) [(1, _), (41, _), (42, _)] [blk bk1 _ _] 0 hp (Sub.cons rfl (Sub.cons rfl (Sub.cons rfl (Sub.cons rfl (Sub.nil _))))) (MSub.cons (by first | (with_reducible repeat (first | exact Pick.here _ | apply Pick.there)); done | (repeat (first | exact Pick.here _ | apply Pick.there))) (MSub.nil _)) ?_
      clear hp
      rintro v12_0 x12 hp hx12
      try dsimp only [dat_pair, dat_int, dat_bool, dat_str] at hp
      refine W_weaken (l' := [(1, _), (41, _), (42, _), (43, _)]) (Sub.cons rfl (Sub.cons rfl (Sub.cons rfl (Sub.cons rfl (Sub.nil _))))) (M' := [_]) (MSub.cons (by first | (with_reducible repeat (first | exact Pick.here _ | apply Pick.there)); done | (repeat (first | exact Pick.here _ | apply Pick.there))) (MSub.nil _)) ?_
      refine W_seq ?_
      refine W_region ?_
      refine L_binV rfl rfl rfl bv_lss ?_
      refine L_nil ?_
      refine W_seq ?_
      refine W_weaken (l' := [(1, _), (41, _), (42, _), (43, _), (44, _)]) (Sub.cons rfl (Sub.cons rfl (Sub.cons rfl (Sub.cons rfl (Sub.cons rfl (Sub.nil _)))))) (MSub.refl _) ?_
      refine W_cond rfl (fun hc13 => ?_) (fun hc13 => ?_)
      · skip
        replace hp := cond_t hc13 hp
        refine W_skip ?_
        refine W_seq ?_
        refine W_block ?_
        refine W_seq ?_
        refine W_region ?_
        refine L_move rfl rfl ?_
        have ho := hp; clear hp; obtain ⟨u14, hy14, hp⟩ := idx_bind ho; clear ho
        obtain ⟨⟨u14_1, u14_2⟩, u14_3, u14_4, u14_5, u14_6, u14_7, u14_8⟩ := u14
        refine L_idxA (X := a0_4) rfl rfl rfl el115 (RdT.old h0.2.2.2) hy14 ?_
        refine L_loadW rfl rfl (RdT.at (RdT.old h0.2.2.2) (hy14).2) (by exact agg270) ?_
        refine L_alloc rfl zero270 (fun bk6 => ?_)
        refine L_assign rfl rfl ?_
        refine L_storeW rfl rfl (by first | (with_reducible repeat (first | exact Pick.here _ | apply Pick.there)); done | (repeat (first | exact Pick.here _ | apply Pick.there))) (by exact agg270) (by rfl) (by first | exact allOne rfl | exact fun v hv => GT.one _ v hv | (simp [Value.oneCell', TL.hdr, Value.cells]; done)) ?_
        refine L_nil ?_
        refine W_seq ?_
        have ho := hp; clear hp; obtain ⟨y15, hy15, hp⟩ := bind_any ho; clear ho
        have ho := hp; clear hp; obtain ⟨y16, hy16, hp⟩ := gb_any ho; clear ho
        refine W_D0 [57] mix (by kernel_rfl) rfl ?_
        refine D_loadW GC.none (OpV.t rfl) (fun hg => RdC.blk (by first | (with_reducible repeat (first | exact List.Mem.head _ | apply List.Mem.tail)); done | (repeat (first | exact List.Mem.head _ | apply List.Mem.tail)))) (by exact agg270) ?_
        refine D_callX GC.none fn230 (OpVs.cons (OpV.t rfl) (OpVs.nil)) (by exact fun hg w F hF hM => i_leadOk_walk w ((u14_1, u14_2), u14_3, u14_4, u14_5, u14_6, u14_7, u14_8) (RdT.nowS (RdT.pair (RdT.pair RdT.int RdT.int) (RdT.pair RdT.int (RdT.pair RdT.int (RdT.pair RdT.int (RdT.pair (RdT.fst (RdT.snd (RdT.snd (RdT.snd (RdT.snd (RdT.of (RdT.old h0.2.2.2) (hy14).2)))))) (RdT.pair (RdT.fst (RdT.snd (RdT.snd (RdT.snd (RdT.snd (RdT.snd (RdT.of (RdT.old h0.2.2.2) (hy14).2))))))) RdT.bool)))))) hF hM) _ hy15) ?_
        refine D_not GC.none (OpV.t rfl) ?_
        refine D_move GC.none (OpV.t rfl) ?_
        refine D_fieldAddr (GC.some rfl rfl) (OpV.t rfl) fld270_0 ?_
        refine D_loadW (GC.some rfl rfl) (OpV.s rfl) (fun hg => RdC.seg (RdC.blk (by first | (with_reducible repeat (first | exact List.Mem.head _ | apply List.Mem.tail)); done | (repeat (first | exact List.Mem.head _ | apply List.Mem.tail)))) 0 2 rfl) (by exact agg264) ?_
        refine D_callX (GC.some rfl rfl) fn231 (OpVs.cons (OpV.t rfl) (OpVs.cons (OpV.s rfl) (OpVs.nil))) (by exact fun hg w F hF hM => i_ENode_lead_walk w bk1 (a0_1, a0_2, a0_3, a0_4) (u14_1, u14_2) (cells_of_blk (hM _ (by first | (with_reducible repeat (first | exact List.Mem.head _ | apply List.Mem.tail)); done | (repeat (first | exact List.Mem.head _ | apply List.Mem.tail)))) hF.sees) (RdT.nowS (RdT.pair RdT.int (RdT.pair RdT.int (RdT.pair (RdT.old h0.2.2.1) (RdT.old h0.2.2.2)))) hF hM) (RdT.nowS (RdT.pair RdT.int RdT.int) hF hM) _ (hy16 (gnot hg.2))) ?_
        refine D_move (GC.some rfl rfl) (OpV.t rfl) ?_
        refine D_bin (GC.some rfl rfl) (OpV.s rfl) (OpV.s rfl) (fun hg => bv_neq) ?_
        refine D_or (cy := _) GC.none (OpV.t rfl) (OpV.s rfl) (fun h hb => ⟨h, hb⟩) ?_
        refine DV_nil ?_
        refine Give_is rfl rfl ?_
        refine Give_drop rfl ?_
        refine Give_drop rfl ?_
        refine Give_drop rfl ?_
        refine Give_drop rfl ?_
        refine Give_drop rfl ?_
        refine Give_drop rfl ?_
        refine Give_drop rfl ?_
        refine Give_drop rfl ?_
        refine Give_drop rfl ?_
        refine Give_nil ?_
        refine W_weaken (l' := [(1, _), (41, _), (42, _), (43, _), (57, _)]) (Sub.cons rfl (Sub.cons rfl (Sub.cons rfl (Sub.cons rfl (Sub.cons rfl (Sub.nil _)))))) (MSub.refl _) ?_
        refine W_cond rfl (fun hc17 => ?_) (fun hc17 => ?_)
        · skip
          replace hp := cond_t hc17 hp
          refine W_seq ?_
          refine W_region ?_
          refine L_assign rfl rfl ?_
          refine L_nil ?_
          have ho := hp; clear hp; obtain ⟨a18, hp, hx_a18⟩ := map_any ho; clear ho
          obtain rfl := hx12 _ hx_a18
          obtain rfl := Option.some.inj hp
          refine W_ret ?_
          refine res1 rfl (ResOK.tmp rfl) ⟨rfl, rfl⟩ (MSub.nil _)
        · skip
          replace hp := cond_f hc17 hp
          refine W_skip ?_
          refine W_region ?_
          refine L_binV rfl rfl rfl bv_add ?_
          refine L_move rfl rfl ?_
          refine L_nil ?_
          exact ⟨IntKind.wrap .i64 (v12_0 + 1), (Sub.cons rfl (Sub.cons rfl (Sub.cons rfl (Sub.cons rfl (Sub.nil _))))), (Arr.sub (MSub.cons (by first | (with_reducible repeat (first | exact Pick.here _ | apply Pick.there)); done | (repeat (first | exact Pick.here _ | apply Pick.there))) (MSub.nil _))), some_eq hp⟩
      · skip
        replace hp := cond_f hc13 hp
        refine W_exit ?_
        have ho := hp; clear hp; obtain ⟨a19, hp, hx_a19⟩ := map_any ho; clear ho
        obtain rfl := hx12 _ hx_a19
        refine W_seq ?_
        refine W_region ?_
        refine L_assign rfl rfl ?_
        refine L_nil ?_
        obtain rfl := Option.some.inj hp
        refine W_ret ?_
        refine res1 rfl (ResOK.tmp rfl) ⟨rfl, rfl⟩ (MSub.nil _)

noncomputable def i_copyENode (a0 : D_ENode) : Option D_ENode :=
  Option.bind (i_copyInsts a0.2.2.1) (fun y1 => whileP (fun s3 : Int × (List D_Lead) => cond (decide (s3.1 < (a0.2.2.2.length : Int))) (Option.bind (idx a0.2.2.2 s3.1) (fun y5 => Option.bind (i_copyIds y5.2.2.2.2.1) (fun y6 => Option.bind (appP ([] : List Int) y5.2.2.2.2.2.1) (fun y8 => Option.bind (appP s3.2 [((y5.1.1, y5.1.2), y5.2.1, y5.2.2.1, y5.2.2.2.1, y6, y8, y5.2.2.2.2.2.2)]) (fun y10 => some (.inl ((IntKind.wrap .i64 (s3.1 + 1), y10)))))))) (Option.map .inr (some (a0.1, a0.2.1, y1, s3.2)))) (0, ([] : List D_Lead)))

theorem i_copyENode_walk (w : World) (a0 : T_ENode) (h0 : GT.rd w [] a0) (r : D_ENode) (hp : i_copyENode (GT.dat a0) = some r) : Spec Try.prog 167 [.agg (GT.cells a0).toArray].toArray w [] (fun v M => ∃ (x0 : T_ENode), v = .agg (GT.cells x0).toArray ∧ GT.dat x0 = r ∧ M = [treeH x0]) := by
  obtain ⟨a0_1, a0_2, a0_3, a0_4⟩ := a0
  change Spec _ _ ([Value.agg #[.int .i64 a0_1, .int .i64 a0_2, (TL.hdr a0_3), (TL.hdr a0_4)]] : List Value).toArray w [] _
  refine Spec.intro Try.func167 rfl Try.ntmps167 rfl ?_
  unfold i_copyENode at hp
  try dsimp only [dat_pair, dat_int, dat_bool, dat_str] at hp
  refine W_seq ?_
  refine W_region ?_
  refine L_box rfl rfl (fun bk1 => ?_)
  refine L_alloc rfl zero117 (fun bk2 => ?_)
  refine L_nil ?_
  refine W_seq ?_
  have ho := hp; clear hp; obtain ⟨y1, hy1, hp⟩ := bind_any ho; clear ho
  refine W_DS (pre := [_, _, _, _, _, _, _, _, _]) (suf := [_]) [3, 13] [] _ (perm_nil_left _) mix (by kernel_rfl) (by kernel_rfl) rfl ?_
  refine D_fieldAddr GC.none (OpV.t rfl) fld117_0 ?_
  refine D_load GC.none (OpV.t rfl) (fun hg => RdC.blk (by first | (with_reducible repeat (first | exact List.Mem.head _ | apply List.Mem.tail)); done | (repeat (first | exact List.Mem.head _ | apply List.Mem.tail)))) one3 rfl ?_
  refine D_fieldAddr GC.none (OpV.t rfl) fld117_1 ?_
  refine D_load GC.none (OpV.t rfl) (fun hg => RdC.blk (by first | (with_reducible repeat (first | exact List.Mem.head _ | apply List.Mem.tail)); done | (repeat (first | exact List.Mem.head _ | apply List.Mem.tail)))) one3 rfl ?_
  refine D_fieldAddr GC.none (OpV.t rfl) fld117_2 ?_
  refine D_load GC.none (OpV.t rfl) (fun hg => RdC.blk (by first | (with_reducible repeat (first | exact List.Mem.head _ | apply List.Mem.tail)); done | (repeat (first | exact List.Mem.head _ | apply List.Mem.tail)))) one114 rfl ?_
  refine D_call1R (fun v M => ∃ (x0 : TL T_Inst), v = (TL.hdr x0) ∧ GT.dat x0 = y1 ∧ M = [treeH x0]) fn232 (OpVs.cons (OpV.t rfl) (OpVs.nil)) (by exact fun w F hF hM => i_copyInsts_walk w a0_3 (RdT.nowS (RdT.old h0.2.2.1) hF hM) _ hy1) ?_
  refine D_buildO (τ := T_Inst) (t := 12) (xs := [(0, .tmp 7), (1, .tmp 9), (2, .tmp 12)]) (ps := fun u => [(0, .int .i64 a0_1), (1, .int .i64 a0_2), (2, u)]) (cs := fun u => [.int .i64 a0_1, .int .i64 a0_2, u, (TL.hdr (TL.nil T_Lead 0))]) rfl (fun u => (OpVp.cons (OpV.t rfl) (OpVp.cons (OpV.t rfl) (OpVp.cons (OpV.t rfl) (OpVp.nil))))) bld117 (fun X => rfl) (by kernel_rfl) ?_
  refine D_alloc zero117 ?_
  refine DV_nil ?_
  refine Give_R rfl rfl ?_
  rintro vr3 Mr3 ⟨bk3, hvr3, rfl⟩
  subst hvr3
  simp only [List.cons_append, List.nil_append]
  refine Give_R rfl rfl ?_
  rintro vy1 My1 ⟨X2, hvy1, hdy1, rfl⟩
  subst hvy1
  subst hdy1
  simp only [List.cons_append, List.nil_append]
  refine Give_cons rfl ?_
  refine Give_drop rfl ?_
  refine Give_drop rfl ?_
  refine Give_drop rfl ?_
  refine Give_drop rfl ?_
  refine Give_drop rfl ?_
  refine Give_drop rfl ?_
  refine Give_nil ?_
  refine L_storeW rfl rfl (by first | (with_reducible repeat (first | exact Pick.here _ | apply Pick.there)); done | (repeat (first | exact Pick.here _ | apply Pick.there))) (by exact agg117) (by rfl) (by first | exact allOne rfl | exact fun v hv => GT.one _ v hv | (simp [Value.oneCell', TL.hdr, Value.cells]; done)) ?_
  refine L_nil ?_
  refine W_seq ?_
  refine W_seq ?_
  refine W_region ?_
  refine L_fieldAddr rfl rfl fld117_3 ?_
  refine L_load rfl rfl (RdC.blk (by first | (with_reducible repeat (first | exact List.Mem.head _ | apply List.Mem.tail)); done | (repeat (first | exact List.Mem.head _ | apply List.Mem.tail)))) one115 rfl ?_
  refine L_lenP (X := a0_4) rfl rfl el115 ?_
  refine L_move rfl rfl ?_
  refine L_nil ?_
  refine W_block ?_
  refine W_conv (M' := treeH (TL.nil T_Lead 0) :: _) (fun w h => addNilT (τ := T_Lead) 0 h) ?_
  refine W_while (σ := Int × (TL T_Lead)) GT.dat (fun ((v3_0, v3_1) : Int × (TL T_Lead)) => [(17, .int .i64 v3_0)]) (fun ((v3_0, v3_1) : Int × (TL T_Lead)) => [blk bk3 [.int .i64 a0_1, .int .i64 a0_2, (TL.hdr X2), (TL.hdr v3_1)] 117, treeH v3_1]) [(2, _), (3, _), (15, _), (16, _)] [blk bk2 _ _, treeH X2] (0, (TL.nil T_Lead 0)) hp (Sub.cons rfl (Sub.cons rfl (Sub.cons rfl (Sub.cons rfl (Sub.cons rfl (Sub.nil _)))))) (MSub.cons (by first | (with_reducible repeat (first | exact Pick.here _ | apply Pick.there)); done | (repeat (first | exact Pick.here _ | apply Pick.there))) (MSub.cons (by first | (with_reducible repeat (first | exact Pick.here _ | apply Pick.there)); done | (repeat (first | exact Pick.here _ | apply Pick.there))) (MSub.cons (by first | (with_reducible repeat (first | exact Pick.here _ | apply Pick.there)); done | (repeat (first | exact Pick.here _ | apply Pick.there))) (MSub.cons (by first | (with_reducible repeat (first | exact Pick.here _ | apply Pick.there)); done | (repeat (first | exact Pick.here _ | apply Pick.there))) (MSub.nil _))))) ?_
  clear hp
  rintro ⟨v3_0, v3_1⟩ x3 hp hx3
  try dsimp only [dat_pair, dat_int, dat_bool, dat_str] at hp
  refine W_weaken (l' := [(2, _), (3, _), (15, _), (16, _), (17, _)]) (Sub.cons rfl (Sub.cons rfl (Sub.cons rfl (Sub.cons rfl (Sub.cons rfl (Sub.nil _)))))) (M' := [_, _, _, _]) (MSub.cons (by first | (with_reducible repeat (first | exact Pick.here _ | apply Pick.there)); done | (repeat (first | exact Pick.here _ | apply Pick.there))) (MSub.cons (by first | (with_reducible repeat (first | exact Pick.here _ | apply Pick.there)); done | (repeat (first | exact Pick.here _ | apply Pick.there))) (MSub.cons (by first | (with_reducible repeat (first | exact Pick.here _ | apply Pick.there)); done | (repeat (first | exact Pick.here _ | apply Pick.there))) (MSub.cons (by first | (with_reducible repeat (first | exact Pick.here _ | apply Pick.there)); done | (repeat (first | exact Pick.here _ | apply Pick.there))) (MSub.nil _))))) ?_
  refine W_seq ?_
  refine W_region ?_
  refine L_binV rfl rfl rfl bv_lss ?_
  refine L_nil ?_
  refine W_seq ?_
  refine W_weaken (l' := [(2, _), (3, _), (15, _), (16, _), (17, _), (18, _)]) (Sub.cons rfl (Sub.cons rfl (Sub.cons rfl (Sub.cons rfl (Sub.cons rfl (Sub.cons rfl (Sub.nil _))))))) (MSub.refl _) ?_
  refine W_cond rfl (fun hc4 => ?_) (fun hc4 => ?_)
  · skip
    replace hp := cond_t hc4 hp
    refine W_skip ?_
    refine W_seq ?_
    refine W_block ?_
    refine W_seq ?_
    refine W_region ?_
    have ho := hp; clear hp; obtain ⟨u5, hy5, hp⟩ := idx_bind ho; clear ho
    obtain ⟨⟨u5_1, u5_2⟩, u5_3, u5_4, u5_5, u5_6, u5_7, u5_8⟩ := u5
    refine L_idxA (X := a0_4) rfl rfl rfl el115 (RdT.old h0.2.2.2) hy5 ?_
    refine L_loadW rfl rfl (RdT.at (RdT.old h0.2.2.2) (hy5).2) (by exact agg270) ?_
    refine L_alloc rfl zero270 (fun bk5 => ?_)
    refine L_storeW rfl rfl (by first | (with_reducible repeat (first | exact Pick.here _ | apply Pick.there)); done | (repeat (first | exact Pick.here _ | apply Pick.there))) (by exact agg270) (by rfl) (by first | exact allOne rfl | exact fun v hv => GT.one _ v hv | (simp [Value.oneCell', TL.hdr, Value.cells]; done)) ?_
    refine L_nil ?_
    refine W_seq ?_
    refine W_region ?_
    refine L_fieldAddr rfl rfl fld270_4 ?_
    refine L_load rfl rfl (RdC.blk (by first | (with_reducible repeat (first | exact List.Mem.head _ | apply List.Mem.tail)); done | (repeat (first | exact List.Mem.head _ | apply List.Mem.tail)))) one265 rfl ?_
    have ho := hp; clear hp; obtain ⟨y6, hy6, hp⟩ := bind_any ho; clear ho
    refine L_callR rfl fn233 rfl (by exact fun w hw => i_copyIds_walk w u5_6 (RdT.now (RdT.fst (RdT.snd (RdT.snd (RdT.snd (RdT.snd (RdT.of (RdT.old h0.2.2.2) (hy5).2)))))) hw) _ hy6) ?_
    rintro vy6 My6 ⟨y6x0, hvy6, hdy6, rfl⟩
    subst hvy6
    subst hdy6
    simp only [cells_pair, cells_int, cells_bool, cells_str, cells_TL, List.cons_append, List.nil_append]
    try dsimp only [dat_pair, dat_int, dat_bool, dat_str] at hp
    refine L_fieldAddr rfl rfl fld270_4 ?_
    refine L_store rfl rfl (by first | (with_reducible repeat (first | exact Pick.here _ | apply Pick.there)); done | (repeat (first | exact Pick.here _ | apply Pick.there))) one265 rfl rfl ?_
    refine L_nil ?_
    refine W_seq ?_
    refine W_region ?_
    refine L_fieldAddr rfl rfl fld270_5 ?_
    refine L_load rfl rfl (RdC.blk (by first | (with_reducible repeat (first | exact List.Mem.head _ | apply List.Mem.tail)); done | (repeat (first | exact List.Mem.head _ | apply List.Mem.tail)))) one49 rfl ?_
    refine L_conv (M' := treeH (TL.nil Int 0) :: _) (fun w h => addNilT _ h) ?_
    have ho := hp; clear hp; obtain ⟨y8, hy8, hp⟩ := bind_any ho; clear ho
    refine L_appT (X := (TL.nil Int 0)) (Y := u5_7) rfl rfl rfl el49 rfl rfl (by first | (with_reducible repeat (first | exact Pick.here _ | apply Pick.there)); done | (repeat (first | exact Pick.here _ | apply Pick.there))) (RdT.fst (RdT.snd (RdT.snd (RdT.snd (RdT.snd (RdT.snd (RdT.of (RdT.old h0.2.2.2) (hy5).2))))))) hy8 (by decide) (fun X7 hdX7 => ?_)
    subst hdX7
    refine L_fieldAddr rfl rfl fld270_5 ?_
    refine L_store rfl rfl (by first | (with_reducible repeat (first | exact Pick.here _ | apply Pick.there)); done | (repeat (first | exact Pick.here _ | apply Pick.there))) one49 rfl rfl ?_
    refine L_nil ?_
    refine W_region ?_
    refine L_fieldAddr rfl rfl fld117_3 ?_
    refine L_load rfl rfl (RdC.blk (by first | (with_reducible repeat (first | exact List.Mem.head _ | apply List.Mem.tail)); done | (repeat (first | exact List.Mem.head _ | apply List.Mem.tail)))) one115 rfl ?_
    refine L_loadW rfl rfl (RdC.blk (by first | (with_reducible repeat (first | exact List.Mem.head _ | apply List.Mem.tail)); done | (repeat (first | exact List.Mem.head _ | apply List.Mem.tail)))) (by exact agg270) ?_
    refine L_buildSlice1 rfl rfl el115 rfl (by decide) (by decide) rfl (fun bb32 => ?_)
    have ho := hp; clear hp; obtain ⟨y10, hy10, hp⟩ := bind_any ho; clear ho
    refine L_conv (M' := treeH ((X7, u5_8) : (TL Int) × Bool) :: _) (fun w h => jnL (a := X7) (b := u5_8) (by first | (with_reducible repeat (first | exact Pick.here _ | apply Pick.there)); done | (repeat (first | exact Pick.here _ | apply Pick.there))) h) ?_
    refine L_conv (M' := treeH ((y6x0, (X7, u5_8)) : (TL T_Id) × (TL Int) × Bool) :: _) (fun w h => jn2 (a := y6x0) (b := (X7, u5_8)) (by first | (with_reducible repeat (first | exact Pick.here _ | apply Pick.there)); done | (repeat (first | exact Pick.here _ | apply Pick.there))) (by first | (with_reducible repeat (first | exact Pick.here _ | apply Pick.there)); done | (repeat (first | exact Pick.here _ | apply Pick.there))) h) ?_
    refine L_conv (M' := treeH ((u5_5, (y6x0, (X7, u5_8))) : Int × (TL T_Id) × (TL Int) × Bool) :: _) (fun w h => jnR (a := u5_5) (b := (y6x0, (X7, u5_8))) (by first | (with_reducible repeat (first | exact Pick.here _ | apply Pick.there)); done | (repeat (first | exact Pick.here _ | apply Pick.there))) h) ?_
    refine L_conv (M' := treeH ((u5_4, (u5_5, (y6x0, (X7, u5_8)))) : Int × Int × (TL T_Id) × (TL Int) × Bool) :: _) (fun w h => jnR (a := u5_4) (b := (u5_5, (y6x0, (X7, u5_8)))) (by first | (with_reducible repeat (first | exact Pick.here _ | apply Pick.there)); done | (repeat (first | exact Pick.here _ | apply Pick.there))) h) ?_
    refine L_conv (M' := treeH ((u5_3, (u5_4, (u5_5, (y6x0, (X7, u5_8))))) : Int × Int × Int × (TL T_Id) × (TL Int) × Bool) :: _) (fun w h => jnR (a := u5_3) (b := (u5_4, (u5_5, (y6x0, (X7, u5_8))))) (by first | (with_reducible repeat (first | exact Pick.here _ | apply Pick.there)); done | (repeat (first | exact Pick.here _ | apply Pick.there))) h) ?_
    refine L_conv (M' := treeH (((u5_1, u5_2), (u5_3, (u5_4, (u5_5, (y6x0, (X7, u5_8)))))) : T_Id × Int × Int × Int × (TL T_Id) × (TL Int) × Bool) :: _) (fun w h => jnR (a := (u5_1, u5_2)) (b := (u5_3, (u5_4, (u5_5, (y6x0, (X7, u5_8)))))) (by first | (with_reducible repeat (first | exact Pick.here _ | apply Pick.there)); done | (repeat (first | exact Pick.here _ | apply Pick.there))) h) ?_
    refine L_app1 (X := v3_1) (((u5_1, u5_2), u5_3, u5_4, u5_5, y6x0, X7, u5_8) : T_Lead) rfl rfl rfl el115 rfl rfl (by first | (with_reducible repeat (first | exact Pick.here _ | apply Pick.there)); done | (repeat (first | exact Pick.here _ | apply Pick.there))) (by first | (with_reducible repeat (first | exact List.Mem.head _ | apply List.Mem.tail)); done | (repeat (first | exact List.Mem.head _ | apply List.Mem.tail))) (by first | (with_reducible repeat (first | exact Pick.here _ | apply Pick.there)); done | (repeat (first | exact Pick.here _ | apply Pick.there))) hy10 (by decide) (fun X9 hdX9 => ?_)
    subst hdX9
    refine L_fieldAddr rfl rfl fld117_3 ?_
    refine L_store rfl rfl (by first | (with_reducible repeat (first | exact Pick.here _ | apply Pick.there)); done | (repeat (first | exact Pick.here _ | apply Pick.there))) one115 rfl rfl ?_
    refine L_nil ?_
    refine W_region ?_
    refine L_binV rfl rfl rfl bv_add ?_
    refine L_move rfl rfl ?_
    refine L_nil ?_
    exact ⟨(IntKind.wrap .i64 (v3_0 + 1), X9), (Sub.cons rfl (Sub.cons rfl (Sub.cons rfl (Sub.cons rfl (Sub.cons rfl (Sub.nil _)))))), (Arr.sub (MSub.cons (by first | (with_reducible repeat (first | exact Pick.here _ | apply Pick.there)); done | (repeat (first | exact Pick.here _ | apply Pick.there))) (MSub.cons (by first | (with_reducible repeat (first | exact Pick.here _ | apply Pick.there)); done | (repeat (first | exact Pick.here _ | apply Pick.there))) (MSub.cons (by first | (with_reducible repeat (first | exact Pick.here _ | apply Pick.there)); done | (repeat (first | exact Pick.here _ | apply Pick.there))) (MSub.cons (by first | (with_reducible repeat (first | exact Pick.here _ | apply Pick.there)); done | (repeat (first | exact Pick.here _ | apply Pick.there))) (MSub.nil _)))))), some_eq hp⟩
  · skip
    replace hp := cond_f hc4 hp
    refine W_exit ?_
    have ho := hp; clear hp; obtain ⟨a11, hp, hx_a11⟩ := map_any ho; clear ho
    obtain rfl := hx3 _ hx_a11
    refine W_seq ?_
    refine W_region ?_
    refine L_loadW rfl rfl (RdC.blk (by first | (with_reducible repeat (first | exact List.Mem.head _ | apply List.Mem.tail)); done | (repeat (first | exact List.Mem.head _ | apply List.Mem.tail)))) (by exact agg117) ?_
    refine L_storeW rfl rfl (by first | (with_reducible repeat (first | exact Pick.here _ | apply Pick.there)); done | (repeat (first | exact Pick.here _ | apply Pick.there))) (by exact agg117) (by rfl) (by first | exact allOne rfl | exact fun v hv => GT.one _ v hv | (simp [Value.oneCell', TL.hdr, Value.cells]; done)) ?_
    refine L_nil ?_
    obtain rfl := Option.some.inj hp
    refine W_conv (M' := treeH ((X2, v3_1) : (TL T_Inst) × TL T_Lead) :: _) (fun w h => jn2 (a := X2) (b := v3_1) (by first | (with_reducible repeat (first | exact Pick.here _ | apply Pick.there)); done | (repeat (first | exact Pick.here _ | apply Pick.there))) (by first | (with_reducible repeat (first | exact Pick.here _ | apply Pick.there)); done | (repeat (first | exact Pick.here _ | apply Pick.there))) h) ?_
    refine W_conv (M' := treeH ((a0_2, (X2, v3_1)) : Int × (TL T_Inst) × TL T_Lead) :: _) (fun w h => jnR (a := a0_2) (b := (X2, v3_1)) (by first | (with_reducible repeat (first | exact Pick.here _ | apply Pick.there)); done | (repeat (first | exact Pick.here _ | apply Pick.there))) h) ?_
    refine W_conv (M' := treeH ((a0_1, (a0_2, (X2, v3_1))) : Int × Int × (TL T_Inst) × TL T_Lead) :: _) (fun w h => jnR (a := a0_1) (b := (a0_2, (X2, v3_1))) (by first | (with_reducible repeat (first | exact Pick.here _ | apply Pick.there)); done | (repeat (first | exact Pick.here _ | apply Pick.there))) h) ?_
    refine W_ret ?_
    refine res1 rfl (ResOK.cell rfl (by first | (with_reducible repeat (first | exact List.Mem.head _ | apply List.Mem.tail)); done | (repeat (first | exact List.Mem.head _ | apply List.Mem.tail))) (by exact agg117)) ⟨(a0_1, a0_2, X2, v3_1), rfl, rfl, rfl⟩ (MSub.cons (by first | (with_reducible repeat (first | exact Pick.here _ | apply Pick.there)); done | (repeat (first | exact Pick.here _ | apply Pick.there))) (MSub.nil _))

noncomputable def i_ENodeFall (a0 : D_ENode) : Option (D_ENode × Bool) :=
  Option.bind (i_ENodeOk (a0.1, a0.2.1, a0.2.2.1, a0.2.2.2)) (fun y1 => cond (!y1) (some ((0, 0, ([] : List D_Inst), ([] : List D_Lead)), false)) (Option.bind (i_copyENode (a0.1, a0.2.1, a0.2.2.1, a0.2.2.2)) (fun y3 => some ((y3.1, y3.2.1, y3.2.2.1, ([] : List D_Lead)), true))))

theorem i_ENodeFall_walk (w : World) (a0 : T_ENode) (h0 : GT.rd w [] a0) (r : D_ENode × Bool) (hp : i_ENodeFall (GT.dat a0) = some r) : Spec Try.prog 78 [.agg (GT.cells a0).toArray].toArray w [] (fun v M => ∃ (x0 : T_ENode) (x1 : Bool), v = .tuple #[.agg (GT.cells x0).toArray, .bool x1] ∧ (GT.dat x0, GT.dat x1) = r ∧ M = [treeH x0]) := by
  obtain ⟨a0_1, a0_2, a0_3, a0_4⟩ := a0
  change Spec _ _ ([Value.agg #[.int .i64 a0_1, .int .i64 a0_2, (TL.hdr a0_3), (TL.hdr a0_4)]] : List Value).toArray w [] _
  refine Spec.intro Try.func78 rfl Try.ntmps78 rfl ?_
  unfold i_ENodeFall at hp
  try dsimp only [dat_pair, dat_int, dat_bool, dat_str] at hp
  refine W_seq ?_
  refine W_region ?_
  refine L_box rfl rfl (fun bk1 => ?_)
  refine L_alloc rfl zero117 (fun bk2 => ?_)
  refine L_assign rfl rfl ?_
  refine L_nil ?_
  refine W_seq ?_
  refine W_seq ?_
  refine W_region ?_
  refine L_loadW rfl rfl (RdC.blk (by first | (with_reducible repeat (first | exact List.Mem.head _ | apply List.Mem.tail)); done | (repeat (first | exact List.Mem.head _ | apply List.Mem.tail)))) (by exact agg117) ?_
  have ho := hp; clear hp; obtain ⟨y1, hy1, hp⟩ := bind_any ho; clear ho
  refine L_callX rfl fn166 rfl (by exact fun w hw => i_ENodeOk_walk w (a0_1, a0_2, a0_3, a0_4) (RdT.now (RdT.pair RdT.int (RdT.pair RdT.int (RdT.pair (RdT.old h0.2.2.1) (RdT.old h0.2.2.2)))) hw) _ hy1) ?_
  refine L_not rfl rfl ?_
  refine L_nil ?_
  refine W_weaken (l' := [(1, _), (2, _), (7, _)]) (Sub.cons rfl (Sub.cons rfl (Sub.cons rfl (Sub.nil _)))) (MSub.refl _) ?_
  refine W_cond rfl (fun hc2 => ?_) (fun hc2 => ?_)
  · skip
    replace hp := cond_t hc2 hp
    refine W_seq ?_
    refine W_region ?_
    refine L_build (xs := []) (cs := [.int .i64 0, .int .i64 0, (TL.hdr (TL.nil T_Inst 0)), (TL.hdr (TL.nil T_Lead 0))]) rfl rfl bld117 rfl ?_
    refine L_storeW rfl rfl (by first | (with_reducible repeat (first | exact Pick.here _ | apply Pick.there)); done | (repeat (first | exact Pick.here _ | apply Pick.there))) (by exact agg117) (by rfl) (by first | exact allOne rfl | exact fun v hv => GT.one _ v hv | (simp [Value.oneCell', TL.hdr, Value.cells]; done)) ?_
    refine L_assign rfl rfl ?_
    refine L_nil ?_
    obtain rfl := Option.some.inj hp
    refine W_conv (M' := treeH (TL.nil T_Inst 0) :: _) (fun w h => addNilT (τ := T_Inst) 0 h) ?_
    refine W_conv (M' := treeH (TL.nil T_Lead 0) :: _) (fun w h => addNilT (τ := T_Lead) 0 h) ?_
    refine W_conv (M' := treeH (((TL.nil T_Inst 0), (TL.nil T_Lead 0)) : (TL T_Inst) × TL T_Lead) :: _) (fun w h => jn2 (a := (TL.nil T_Inst 0)) (b := (TL.nil T_Lead 0)) (by first | (with_reducible repeat (first | exact Pick.here _ | apply Pick.there)); done | (repeat (first | exact Pick.here _ | apply Pick.there))) (by first | (with_reducible repeat (first | exact Pick.here _ | apply Pick.there)); done | (repeat (first | exact Pick.here _ | apply Pick.there))) h) ?_
    refine W_conv (M' := treeH ((0, ((TL.nil T_Inst 0), (TL.nil T_Lead 0))) : Int × (TL T_Inst) × TL T_Lead) :: _) (fun w h => jnR (a := 0) (b := ((TL.nil T_Inst 0), (TL.nil T_Lead 0))) (by first | (with_reducible repeat (first | exact Pick.here _ | apply Pick.there)); done | (repeat (first | exact Pick.here _ | apply Pick.there))) h) ?_
    refine W_conv (M' := treeH ((0, (0, ((TL.nil T_Inst 0), (TL.nil T_Lead 0)))) : Int × Int × (TL T_Inst) × TL T_Lead) :: _) (fun w h => jnR (a := 0) (b := (0, ((TL.nil T_Inst 0), (TL.nil T_Lead 0)))) (by first | (with_reducible repeat (first | exact Pick.here _ | apply Pick.there)); done | (repeat (first | exact Pick.here _ | apply Pick.there))) h) ?_
    refine W_ret ?_
    refine res2 rfl (ResOK.cell rfl (by first | (with_reducible repeat (first | exact List.Mem.head _ | apply List.Mem.tail)); done | (repeat (first | exact List.Mem.head _ | apply List.Mem.tail))) (by exact agg117)) (ResOK.tmp rfl) ⟨(0, 0, (TL.nil T_Inst 0), (TL.nil T_Lead 0)), false, rfl, rfl, rfl⟩ (MSub.cons (by first | (with_reducible repeat (first | exact Pick.here _ | apply Pick.there)); done | (repeat (first | exact Pick.here _ | apply Pick.there))) (MSub.nil _))
  · skip
    replace hp := cond_f hc2 hp
    refine W_skip ?_
    refine W_seq ?_
    refine W_region ?_
    refine L_loadW rfl rfl (RdC.blk (by first | (with_reducible repeat (first | exact List.Mem.head _ | apply List.Mem.tail)); done | (repeat (first | exact List.Mem.head _ | apply List.Mem.tail)))) (by exact agg117) ?_
    have ho := hp; clear hp; obtain ⟨y3, hy3, hp⟩ := bind_any ho; clear ho
    refine L_callR rfl fn167 rfl (by exact fun w hw => i_copyENode_walk w (a0_1, a0_2, a0_3, a0_4) (RdT.now (RdT.pair RdT.int (RdT.pair RdT.int (RdT.pair (RdT.old h0.2.2.1) (RdT.old h0.2.2.2)))) hw) _ hy3) ?_
    rintro vy3 My3 ⟨y3x0, hvy3, hdy3, rfl⟩
    subst hvy3
    subst hdy3
    obtain ⟨y3x0_1, y3x0_2, y3x0_3, y3x0_4⟩ := y3x0
    simp only [cells_pair, cells_int, cells_bool, cells_str, cells_TL, List.cons_append, List.nil_append]
    try dsimp only [dat_pair, dat_int, dat_bool, dat_str] at hp
    refine L_conv (M' := treeH (y3x0_2, y3x0_3, y3x0_4) :: _) (fun w h => exR (a := y3x0_1) (by first | (with_reducible repeat (first | exact Pick.here _ | apply Pick.there)); done | (repeat (first | exact Pick.here _ | apply Pick.there))) h) ?_
    refine L_conv (M' := treeH (y3x0_3, y3x0_4) :: _) (fun w h => exR (a := y3x0_2) (by first | (with_reducible repeat (first | exact Pick.here _ | apply Pick.there)); done | (repeat (first | exact Pick.here _ | apply Pick.there))) h) ?_
    refine L_conv (M' := treeH y3x0_3 :: treeH y3x0_4 :: _) (fun w h => ex2 (by first | (with_reducible repeat (first | exact Pick.here _ | apply Pick.there)); done | (repeat (first | exact Pick.here _ | apply Pick.there))) h) ?_
    refine L_alloc rfl zero117 (fun bk4 => ?_)
    refine L_storeW rfl rfl (by first | (with_reducible repeat (first | exact Pick.here _ | apply Pick.there)); done | (repeat (first | exact Pick.here _ | apply Pick.there))) (by exact agg117) (by rfl) (by first | exact allOne rfl | exact fun v hv => GT.one _ v hv | (simp [Value.oneCell', TL.hdr, Value.cells]; done)) ?_
    refine L_nil ?_
    refine W_seq ?_
    refine W_region ?_
    refine L_fieldAddr rfl rfl fld117_3 ?_
    refine L_store rfl rfl (by first | (with_reducible repeat (first | exact Pick.here _ | apply Pick.there)); done | (repeat (first | exact Pick.here _ | apply Pick.there))) one115 rfl rfl ?_
    refine L_nil ?_
    refine W_seq ?_
    refine W_region ?_
    refine L_loadW rfl rfl (RdC.blk (by first | (with_reducible repeat (first | exact List.Mem.head _ | apply List.Mem.tail)); done | (repeat (first | exact List.Mem.head _ | apply List.Mem.tail)))) (by exact agg117) ?_
    refine L_storeW rfl rfl (by first | (with_reducible repeat (first | exact Pick.here _ | apply Pick.there)); done | (repeat (first | exact Pick.here _ | apply Pick.there))) (by exact agg117) (by rfl) (by first | exact allOne rfl | exact fun v hv => GT.one _ v hv | (simp [Value.oneCell', TL.hdr, Value.cells]; done)) ?_
    refine L_assign rfl rfl ?_
    refine L_nil ?_
    obtain rfl := Option.some.inj hp
    refine W_conv (M' := treeH (TL.nil T_Lead 0) :: _) (fun w h => addNilT (τ := T_Lead) 0 h) ?_
    refine W_conv (M' := treeH ((y3x0_3, (TL.nil T_Lead 0)) : (TL T_Inst) × TL T_Lead) :: _) (fun w h => jn2 (a := y3x0_3) (b := (TL.nil T_Lead 0)) (by first | (with_reducible repeat (first | exact Pick.here _ | apply Pick.there)); done | (repeat (first | exact Pick.here _ | apply Pick.there))) (by first | (with_reducible repeat (first | exact Pick.here _ | apply Pick.there)); done | (repeat (first | exact Pick.here _ | apply Pick.there))) h) ?_
    refine W_conv (M' := treeH ((y3x0_2, (y3x0_3, (TL.nil T_Lead 0))) : Int × (TL T_Inst) × TL T_Lead) :: _) (fun w h => jnR (a := y3x0_2) (b := (y3x0_3, (TL.nil T_Lead 0))) (by first | (with_reducible repeat (first | exact Pick.here _ | apply Pick.there)); done | (repeat (first | exact Pick.here _ | apply Pick.there))) h) ?_
    refine W_conv (M' := treeH ((y3x0_1, (y3x0_2, (y3x0_3, (TL.nil T_Lead 0)))) : Int × Int × (TL T_Inst) × TL T_Lead) :: _) (fun w h => jnR (a := y3x0_1) (b := (y3x0_2, (y3x0_3, (TL.nil T_Lead 0)))) (by first | (with_reducible repeat (first | exact Pick.here _ | apply Pick.there)); done | (repeat (first | exact Pick.here _ | apply Pick.there))) h) ?_
    refine W_ret ?_
    refine res2 rfl (ResOK.cell rfl (by first | (with_reducible repeat (first | exact List.Mem.head _ | apply List.Mem.tail)); done | (repeat (first | exact List.Mem.head _ | apply List.Mem.tail))) (by exact agg117)) (ResOK.tmp rfl) ⟨(y3x0_1, y3x0_2, y3x0_3, (TL.nil T_Lead 0)), true, rfl, rfl, rfl⟩ (MSub.cons (by first | (with_reducible repeat (first | exact Pick.here _ | apply Pick.there)); done | (repeat (first | exact Pick.here _ | apply Pick.there))) (MSub.nil _))

end Go.Proofs.SL
