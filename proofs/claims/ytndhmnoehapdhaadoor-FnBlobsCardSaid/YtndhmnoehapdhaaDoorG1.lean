/- The package's array, as the rows' condition tells it; a world that meets the condition. -/
import Derived.Test.YtndhmnoehapdhaaDoorB3
import Derived.Test.YtndhmnoehapdhaaDoorG0
import Derived.Test.YtndhmnoehapdhaaDoorRows
namespace Go.Proofs.SL
open Go
def laidL : List (String × DataW Unit) := [("loop.example/g00954/impl.shaWords", YtndhmnoehapdhaaDoor.Rows.laid_loop_example_g00954_impl_shaWords)]
theorem gnam : Tryd.prog.globalNamed "loop.example/g00954/impl.shaWords" = some 0 := by kernel_rfl
theorem gtyp : (Tryd.prog.globals[0]?).map (·.type) = some 178 := by kernel_rfl
theorem gundA : Tryd.prog.underlying 178 = some (.array 64 153) := by kernel_rfl
theorem gundE : Tryd.prog.underlying 153 = some (.int .u32) := by kernel_rfl
theorem gcelE : Tryd.prog.cellsOf 153 = 1 := by kernel_rfl
theorem gcelA : Tryd.prog.cellsOf 178 = 64 := by kernel_rfl
theorem gdat : (YtndhmnoehapdhaaDoor.Rows.laid_loop_example_g00954_impl_shaWords : DataW Unit) = .agg (gA0.map fun a => .lit (.int .u32 a)) := by kernel_rfl
theorem gplain : (laidL.all fun x => x.2.handleName?.isNone) = true := by kernel_rfl
theorem gread {W : World} (h : laidMetH Tryd.prog laidL W) : GT.rd W [] gV0 := gv_of_laid gnam gtyp gundA gundE gcelE gcelA gdat gplain h
theorem gfits : ∀ os, (World.holding Tryd.prog os ⟨#[], #[], []⟩).layFits Tryd.prog laidL [] = true := fun os => by kernel_rfl
theorem gifac : ∀ os, (World.holding Tryd.prog os ⟨#[], #[], []⟩).layIfaces Tryd.prog laidL (World.laidAll Tryd.prog os laidL) = true := fun os => by kernel_rfl
theorem gmet (os : Os) (args : Array Value) : laidMetH Tryd.prog laidL ((World.laidAll Tryd.prog os laidL).forCall (fun _ _ => 0) ⟨#[], args, []⟩).memory := by
  rw [MakeChecks.laidMetH_plain _ _ _ gplain]; exact laidMet_laidAll _ (gfits os) (gifac os)
end Go.Proofs.SL
