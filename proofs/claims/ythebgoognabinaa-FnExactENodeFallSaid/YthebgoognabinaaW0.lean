/- Walks of functions, each with the function on data that it follows. -/
import Derived.Test.YthebgoognabinaaFN
import Derived.Test.YthebgoognabinaaB2
namespace Go.Proofs.SL
open Go
theorem fn119 : IsFn Try.prog 119 := ⟨_, Try.func119, by kernel_rfl, rfl⟩
noncomputable def s_l1In (a0 : Int) (a1 : Int) (a2 : Int) : Option Bool :=
  some ((decide (a1 ≤ a0)) && (decide (a0 ≤ a2)))

theorem s_l1In_walk (w : World) (a0 : Int) (a1 : Int) (a2 : Int)  (r : Bool) (hp : s_l1In a0 a1 a2 = some r) : Spec Try.prog 123 [.int .i64 a0, .int .i64 a1, .int .i64 a2].toArray w [] (IsV (.bool r)) := by
  refine Spec.intro Try.func123 rfl Try.ntmps123 rfl ?_
  unfold s_l1In at hp
  try dsimp only [dat_pair, dat_int, dat_bool, dat_str] at hp
  refine W_seq ?_
  refine W_region ?_
  refine L_assign rfl rfl ?_
  refine L_nil ?_
  refine W_seq ?_
  refine W_D0 [6] mix (by kernel_rfl) rfl ?_
  refine D_move GC.none (OpV.t rfl) ?_
  refine D_move GC.none (OpV.t rfl) ?_
  refine D_bin GC.none (OpV.t rfl) (OpV.t rfl) (fun hg => bv_geq) ?_
  refine D_move GC.none (OpV.t rfl) ?_
  refine D_move (GC.some rfl rfl) (OpV.t rfl) ?_
  refine D_move (GC.some rfl rfl) (OpV.t rfl) ?_
  refine D_bin (GC.some rfl rfl) (OpV.s rfl) (OpV.s rfl) (fun hg => bv_leq) ?_
  refine D_and (cy := _) GC.none (OpV.t rfl) (OpV.s rfl) (fun h hb => ⟨h, hb⟩) ?_
  refine D_assign GC.none (OpV.t rfl) ?_
  refine DV_nil ?_
  refine Give_is rfl rfl ?_
  refine Give_drop rfl ?_
  refine Give_drop rfl ?_
  refine Give_drop rfl ?_
  refine Give_drop rfl ?_
  refine Give_drop rfl ?_
  refine Give_drop rfl ?_
  refine Give_drop rfl ?_
  refine Give_drop rfl ?_
  refine Give_nil ?_
  obtain rfl := Option.some.inj hp
  refine W_ret ?_
  refine res1 rfl (ResOK.tmp rfl) ⟨rfl, rfl⟩ (MSub.nil _)

noncomputable def i_within (a0 : Int) (a1 : Int) (a2 : Int) : Option Bool :=
  some ((decide (a1 ≤ a0)) && (decide (a0 ≤ a2)))

theorem i_within_walk (w : World) (a0 : Int) (a1 : Int) (a2 : Int)  (r : Bool) (hp : i_within a0 a1 a2 = some r) : Spec Try.prog 119 [.int .i64 a0, .int .i64 a1, .int .i64 a2].toArray w [] (IsV (.bool r)) := by
  refine Spec.intro Try.func119 rfl Try.ntmps119 rfl ?_
  unfold i_within at hp
  try dsimp only [dat_pair, dat_int, dat_bool, dat_str] at hp
  refine W_seq ?_
  refine W_region ?_
  refine L_assign rfl rfl ?_
  refine L_nil ?_
  refine W_seq ?_
  refine W_D0 [6] mix (by kernel_rfl) rfl ?_
  refine D_move GC.none (OpV.t rfl) ?_
  refine D_move GC.none (OpV.t rfl) ?_
  refine D_bin GC.none (OpV.t rfl) (OpV.t rfl) (fun hg => bv_geq) ?_
  refine D_move GC.none (OpV.t rfl) ?_
  refine D_move (GC.some rfl rfl) (OpV.t rfl) ?_
  refine D_move (GC.some rfl rfl) (OpV.t rfl) ?_
  refine D_bin (GC.some rfl rfl) (OpV.s rfl) (OpV.s rfl) (fun hg => bv_leq) ?_
  refine D_and (cy := _) GC.none (OpV.t rfl) (OpV.s rfl) (fun h hb => ⟨h, hb⟩) ?_
  refine D_assign GC.none (OpV.t rfl) ?_
  refine DV_nil ?_
  refine Give_is rfl rfl ?_
  refine Give_drop rfl ?_
  refine Give_drop rfl ?_
  refine Give_drop rfl ?_
  refine Give_drop rfl ?_
  refine Give_drop rfl ?_
  refine Give_drop rfl ?_
  refine Give_drop rfl ?_
  refine Give_drop rfl ?_
  refine Give_nil ?_
  obtain rfl := Option.some.inj hp
  refine W_ret ?_
  refine res1 rfl (ResOK.tmp rfl) ⟨rfl, rfl⟩ (MSub.nil _)

noncomputable def i_isClient (a0 : Int) : Option Bool :=
  Option.bind (i_within a0 1 9) (fun y1 => some y1)

theorem i_isClient_walk (w : World) (a0 : Int)  (r : Bool) (hp : i_isClient a0 = some r) : Spec Try.prog 118 [.int .i64 a0].toArray w [] (IsV (.bool r)) := by
  refine Spec.intro Try.func118 rfl Try.ntmps118 rfl ?_
  unfold i_isClient at hp
  try dsimp only [dat_pair, dat_int, dat_bool, dat_str] at hp
  refine W_seq ?_
  refine W_region ?_
  refine L_assign rfl rfl ?_
  refine L_nil ?_
  refine W_seq ?_
  refine W_region ?_
  refine L_move rfl rfl ?_
  have ho := hp; clear hp; obtain ⟨y1, hy1, hp⟩ := bind_any ho; clear ho
  refine L_callX rfl fn119 rfl (by exact fun w hw => i_within_walk w a0 1 9  _ hy1) ?_
  refine L_assign rfl rfl ?_
  refine L_nil ?_
  obtain rfl := Option.some.inj hp
  refine W_ret ?_
  refine res1 rfl (ResOK.tmp rfl) ⟨rfl, rfl⟩ (MSub.nil _)

noncomputable def s_l9Node (a0 : Int) : Option Bool :=
  some ((decide (0 ≤ a0)) && (decide (a0 < 3)))

theorem s_l9Node_walk (w : World) (a0 : Int)  (r : Bool) (hp : s_l9Node a0 = some r) : Spec Try.prog 107 [.int .i64 a0].toArray w [] (IsV (.bool r)) := by
  refine Spec.intro Try.func107 rfl Try.ntmps107 rfl ?_
  unfold s_l9Node at hp
  try dsimp only [dat_pair, dat_int, dat_bool, dat_str] at hp
  refine W_seq ?_
  refine W_region ?_
  refine L_assign rfl rfl ?_
  refine L_nil ?_
  refine W_seq ?_
  refine W_D0 [2] mix (by kernel_rfl) rfl ?_
  refine D_move GC.none (OpV.t rfl) ?_
  refine D_bin GC.none (OpV.t rfl) OpV.c (fun hg => bv_geq) ?_
  refine D_move GC.none (OpV.t rfl) ?_
  refine D_move (GC.some rfl rfl) (OpV.t rfl) ?_
  refine D_bin (GC.some rfl rfl) (OpV.s rfl) OpV.c (fun hg => bv_lss) ?_
  refine D_and (cy := _) GC.none (OpV.t rfl) (OpV.s rfl) (fun h hb => ⟨h, hb⟩) ?_
  refine D_assign GC.none (OpV.t rfl) ?_
  refine DV_nil ?_
  refine Give_is rfl rfl ?_
  refine Give_drop rfl ?_
  refine Give_drop rfl ?_
  refine Give_drop rfl ?_
  refine Give_drop rfl ?_
  refine Give_drop rfl ?_
  refine Give_drop rfl ?_
  refine Give_nil ?_
  obtain rfl := Option.some.inj hp
  refine W_ret ?_
  refine res1 rfl (ResOK.tmp rfl) ⟨rfl, rfl⟩ (MSub.nil _)

noncomputable def i_isRep (a0 : Int) : Option Bool :=
  Option.bind (i_within a0 0 2) (fun y1 => some y1)

theorem i_isRep_walk (w : World) (a0 : Int)  (r : Bool) (hp : i_isRep a0 = some r) : Spec Try.prog 113 [.int .i64 a0].toArray w [] (IsV (.bool r)) := by
  refine Spec.intro Try.func113 rfl Try.ntmps113 rfl ?_
  unfold i_isRep at hp
  try dsimp only [dat_pair, dat_int, dat_bool, dat_str] at hp
  refine W_seq ?_
  refine W_region ?_
  refine L_assign rfl rfl ?_
  refine L_nil ?_
  refine W_seq ?_
  refine W_region ?_
  refine L_move rfl rfl ?_
  have ho := hp; clear hp; obtain ⟨y1, hy1, hp⟩ := bind_any ho; clear ho
  refine L_callX rfl fn119 rfl (by exact fun w hw => i_within_walk w a0 0 2  _ hy1) ?_
  refine L_assign rfl rfl ?_
  refine L_nil ?_
  obtain rfl := Option.some.inj hp
  refine W_ret ?_
  refine res1 rfl (ResOK.tmp rfl) ⟨rfl, rfl⟩ (MSub.nil _)

end Go.Proofs.SL
