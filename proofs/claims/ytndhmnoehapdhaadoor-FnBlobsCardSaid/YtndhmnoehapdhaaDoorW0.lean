/- Walks of functions, each with the function on data that it follows. -/
import Derived.Test.YtndhmnoehapdhaaDoorFN
import Derived.Test.YtndhmnoehapdhaaDoorB2
namespace Go.Proofs.SL
open Go
theorem mix : Tryd.prog.follows .mixedOrders = true := by kernel_rfl
noncomputable def s_l1In (a0 : Int) (a1 : Int) (a2 : Int) : Option Bool :=
  some ((decide (a1 ≤ a0)) && (decide (a0 ≤ a2)))

theorem s_l1In_walk (w : World) (a0 : Int) (a1 : Int) (a2 : Int)  (r : Bool) (hp : s_l1In a0 a1 a2 = some r) : Spec Tryd.prog 86 [.int .i64 a0, .int .i64 a1, .int .i64 a2].toArray w [] (IsV (.bool r)) := by
  refine Spec.intro Tryd.func86 rfl Tryd.ntmps86 rfl ?_
  unfold s_l1In at hp
  try dsimp only [dat_pair, dat_int, dat_bool, dat_str, dat_ar] at hp
  refine W_seq ?_
  refine W_region ?_
  refine L_assign rfl rfl ?_
  refine L_nil ?_
  refine W_seq ?_
  refine W_D0 [6] mix (by kernel_rfl) rfl ?_
  refine D_move GC.none (OpV.t rfl) ?_
  refine D_move GC.none (OpV.t rfl) ?_
  refine D_bin GC.none (OpV.t rfl) (OpV.t rfl) (fun hg => bv_geq) ?_
  refine D_move GC.none (OpV.t rfl) ?_
  refine D_move (GC.some rfl rfl) (OpV.t rfl) ?_
  refine D_move (GC.some rfl rfl) (OpV.t rfl) ?_
  refine D_bin (GC.some rfl rfl) (OpV.s rfl) (OpV.s rfl) (fun hg => bv_leq) ?_
  refine D_and (cy := _) GC.none (OpV.t rfl) (OpV.s rfl) (fun h hb => ⟨h, hb⟩) ?_
  refine D_assign GC.none (OpV.t rfl) ?_
  refine DV_nil ?_
  refine Give_is rfl rfl ?_
  refine Give_drop rfl ?_
  refine Give_drop rfl ?_
  refine Give_drop rfl ?_
  refine Give_drop rfl ?_
  refine Give_drop rfl ?_
  refine Give_drop rfl ?_
  refine Give_drop rfl ?_
  refine Give_drop rfl ?_
  refine Give_nil ?_
  obtain rfl := Option.some.inj hp
  refine W_ret ?_
  refine res1 rfl (ResOK.tmp rfl) ⟨rfl, rfl⟩ (MSub.nil _)

noncomputable def i_within (a0 : Int) (a1 : Int) (a2 : Int) : Option Bool :=
  some ((decide (a1 ≤ a0)) && (decide (a0 ≤ a2)))

theorem i_within_walk (w : World) (a0 : Int) (a1 : Int) (a2 : Int)  (r : Bool) (hp : i_within a0 a1 a2 = some r) : Spec Tryd.prog 102 [.int .i64 a0, .int .i64 a1, .int .i64 a2].toArray w [] (IsV (.bool r)) := by
  refine Spec.intro Tryd.func102 rfl Tryd.ntmps102 rfl ?_
  unfold i_within at hp
  try dsimp only [dat_pair, dat_int, dat_bool, dat_str, dat_ar] at hp
  refine W_seq ?_
  refine W_region ?_
  refine L_assign rfl rfl ?_
  refine L_nil ?_
  refine W_seq ?_
  refine W_D0 [6] mix (by kernel_rfl) rfl ?_
  refine D_move GC.none (OpV.t rfl) ?_
  refine D_move GC.none (OpV.t rfl) ?_
  refine D_bin GC.none (OpV.t rfl) (OpV.t rfl) (fun hg => bv_geq) ?_
  refine D_move GC.none (OpV.t rfl) ?_
  refine D_move (GC.some rfl rfl) (OpV.t rfl) ?_
  refine D_move (GC.some rfl rfl) (OpV.t rfl) ?_
  refine D_bin (GC.some rfl rfl) (OpV.s rfl) (OpV.s rfl) (fun hg => bv_leq) ?_
  refine D_and (cy := _) GC.none (OpV.t rfl) (OpV.s rfl) (fun h hb => ⟨h, hb⟩) ?_
  refine D_assign GC.none (OpV.t rfl) ?_
  refine DV_nil ?_
  refine Give_is rfl rfl ?_
  refine Give_drop rfl ?_
  refine Give_drop rfl ?_
  refine Give_drop rfl ?_
  refine Give_drop rfl ?_
  refine Give_drop rfl ?_
  refine Give_drop rfl ?_
  refine Give_drop rfl ?_
  refine Give_drop rfl ?_
  refine Give_nil ?_
  obtain rfl := Option.some.inj hp
  refine W_ret ?_
  refine res1 rfl (ResOK.tmp rfl) ⟨rfl, rfl⟩ (MSub.nil _)

end Go.Proofs.SL
