/-
  No cell of these rows narrows 'for every input' (looked for: loops, veiled, ifaces, maps, wideKeys, modest, calm, conditions, laid).
  DERIVED. THE GIVEN ROWS OF THIS SEAT. 3 by the template 'for every input the law returns true; each argument reads behind the call as it read before'; 0 by the template 'total and deterministic' (their statements: YtipncebebegacaaGreatTotals.lean).
  GIVEN WITH THE SEED: the statements are not yours to turn. If you find one false, say at which input.
  Laid BY PROGRAM, IN A SANDBOX (cutbox-rows.mjs): the forced cells as the released guide's own fill.sh prints them over the translation de77619539a37e79… (all of the seat's roots in one cut). By AI agents, Wed Nov 11 2026. No macro, syntax, notation, axiom, sorry.
-/
import Derived.Test.YtipncebebegacaaGreatChecked
import GoSem.Claim
import GoSem.ClaimJoined
import GoSem.ClaimMapViews
import Derived.JoinedTies
import Derived.KernelRfl
namespace Go.Proofs.YtipncebebegacaaGreat
/- THE CELL 'sum', in the pinned program and in every row, IS THE sha256 OF THE DUMP (.gsa) THAT YtipncebebegacaaGreatProg.lean LOADS. Nothing in Lean hashes anything: it is a label: what it is worth is what the hold of that sum in a sandbox is worth. -/
noncomputable def Tryz.pinned : Pinned := { name := "ytipncebebegacaagreat", sum := "de77619539a37e797bcabec0e1e4957a60f4c4ea9c8fe22710746f085274b1d5", checked := Tryz.checked }
namespace Rows
def none {H : Type} : Left H := { results := [], args := [] }

/-- 'laws.FnExactAnswers': WHATEVER THE INPUT: true; the input reads as it did. -/
def fnExactAnswersSpec : ChangeSpec := { name := "fnExactAnswers", fn := fun _ => fun
  | [d] => { results := [.lit (.bool true)], args := [d] }
  | _ => none }
def fnExactAnswersRow : OpenClaim := { program := "ytipncebebegacaagreat", sum := "de77619539a37e797bcabec0e1e4957a60f4c4ea9c8fe22710746f085274b1d5", func := "loop.example/g00954/laws.FnExactAnswers", spec := "fnExactAnswers", inPlace := ["slices.overlaps[loop.example/g00954/impl.CSet]", "slices.overlaps[loop.example/g00954/impl.Said]"], unfollowed := true, recurses := true, apart := false }
def FnExactAnswersSaid : Prop := fnExactAnswersRow.holds Tryz.pinned (OpenSpec.ofChange fnExactAnswersSpec)

/-- ITS FALSE NEIGHBOUR: 'it returns false'. Refute it at one input. -/
def fnExactAnswersWrong : ChangeSpec := { name := "fnExactAnswers", fn := fun _ => fun
  | [d] => { results := [.lit (.bool false)], args := [d] }
  | _ => none }
def FnExactAnswersWrongFalsely : Prop := fnExactAnswersRow.holds Tryz.pinned (OpenSpec.ofChange fnExactAnswersWrong)

/-- 'laws.FnExactNodeState': WHATEVER THE INPUT: true; the input reads as it did. -/
def fnExactNodeStateSpec : ChangeSpec := { name := "fnExactNodeState", fn := fun _ => fun
  | [d] => { results := [.lit (.bool true)], args := [d] }
  | _ => none }
def fnExactNodeStateRow : OpenClaim := { program := "ytipncebebegacaagreat", sum := "de77619539a37e797bcabec0e1e4957a60f4c4ea9c8fe22710746f085274b1d5", func := "loop.example/g00954/laws.FnExactNodeState", spec := "fnExactNodeState", inPlace := ["slices.overlaps[loop.example/g00954/impl.CSet]", "slices.overlaps[loop.example/g00954/impl.Said]"], unfollowed := true, recurses := true, apart := false }
def FnExactNodeStateSaid : Prop := fnExactNodeStateRow.holds Tryz.pinned (OpenSpec.ofChange fnExactNodeStateSpec)

/-- ITS FALSE NEIGHBOUR: 'it returns false'. Refute it at one input. -/
def fnExactNodeStateWrong : ChangeSpec := { name := "fnExactNodeState", fn := fun _ => fun
  | [d] => { results := [.lit (.bool false)], args := [d] }
  | _ => none }
def FnExactNodeStateWrongFalsely : Prop := fnExactNodeStateRow.holds Tryz.pinned (OpenSpec.ofChange fnExactNodeStateWrong)

/-- 'laws.FnExactAlike': WHATEVER THE INPUT: true; the input reads as it did. -/
def fnExactAlikeSpec : ChangeSpec := { name := "fnExactAlike", fn := fun _ => fun
  | [d] => { results := [.lit (.bool true)], args := [d] }
  | _ => none }
def fnExactAlikeRow : OpenClaim := { program := "ytipncebebegacaagreat", sum := "de77619539a37e797bcabec0e1e4957a60f4c4ea9c8fe22710746f085274b1d5", func := "loop.example/g00954/laws.FnExactAlike", spec := "fnExactAlike", inPlace := ["slices.overlaps[loop.example/g00954/impl.CSet]", "slices.overlaps[loop.example/g00954/impl.Said]"], unfollowed := true, recurses := true, apart := false }
def FnExactAlikeSaid : Prop := fnExactAlikeRow.holds Tryz.pinned (OpenSpec.ofChange fnExactAlikeSpec)

/-- ITS FALSE NEIGHBOUR: 'it returns false'. Refute it at one input. -/
def fnExactAlikeWrong : ChangeSpec := { name := "fnExactAlike", fn := fun _ => fun
  | [d] => { results := [.lit (.bool false)], args := [d] }
  | _ => none }
def FnExactAlikeWrongFalsely : Prop := fnExactAlikeRow.holds Tryz.pinned (OpenSpec.ofChange fnExactAlikeWrong)

/- THE SECOND FORM. 'bulk': how many values and letters a reading holds, each counted each time it is reached (what is shared counts as often as it is met; a slice's spare places count too). A statement '..UptoSaid' is the law's where the arguments, and the package variables that the reading takes, are together of bulk at most 1048576: NARROWER than '..Said'. Prove '..Said' where nothing that the law and all that it calls make is longer than what came in: it says more and counts as full. Else prove '..UptoSaid'. A law counts once. -/
mutual
def uptoBulk {H : Type} : DataW H → Nat
  | .lit (.string bytes) => bytes.length + 1
  | .lit _ => 1
  | .nil => 1
  | .ptr d => uptoBulk d + 1
  | .slice elems spare => uptoBulkAll elems + uptoBulkAll spare + 1
  | .agg parts => uptoBulkAll parts + 1
  | .iface _ d => uptoBulk d + 1
  | .map entries => uptoBulkEntries entries + 1
  | .held _ => 1
def uptoBulkAll {H : Type} : List (DataW H) → Nat
  | [] => 0
  | d :: r => uptoBulk d + uptoBulkAll r
def uptoBulkEntries {H : Type} : List (Lit × DataW H) → Nat
  | [] => 0
  | x :: r => uptoBulkEntry x + uptoBulkEntries r
def uptoBulkEntry {H : Type} : Lit × DataW H → Nat
  | (.string bytes, d) => bytes.length + uptoBulk d + 1
  | (_, d) => uptoBulk d + 1
 end
def uptoSmall : (H : Type) → List (DataW H) → Bool := fun _ ds => decide (uptoBulkAll ds ≤ 1048576)
def OpenSpec.upto (s : _root_.Go.ChangeSpec) : _root_.Go.OpenSpec := { _root_.Go.OpenSpec.ofChange s with cond := some uptoSmall }

/-- 'laws.FnExactAnswers', WHERE WHAT IT READS IS OF BULK AT MOST 1048576: true; the input reads as it did. -/
def fnExactAnswersUptoRow : OpenClaim := { program := "ytipncebebegacaagreat", sum := "de77619539a37e797bcabec0e1e4957a60f4c4ea9c8fe22710746f085274b1d5", func := "loop.example/g00954/laws.FnExactAnswers", spec := "fnExactAnswers", inPlace := ["slices.overlaps[loop.example/g00954/impl.CSet]", "slices.overlaps[loop.example/g00954/impl.Said]"], unfollowed := true, recurses := true, apart := false, narrowed := true }
def FnExactAnswersUptoSaid : Prop := fnExactAnswersUptoRow.holds Tryz.pinned (OpenSpec.upto fnExactAnswersSpec)

/-- 'laws.FnExactNodeState', WHERE WHAT IT READS IS OF BULK AT MOST 1048576: true; the input reads as it did. -/
def fnExactNodeStateUptoRow : OpenClaim := { program := "ytipncebebegacaagreat", sum := "de77619539a37e797bcabec0e1e4957a60f4c4ea9c8fe22710746f085274b1d5", func := "loop.example/g00954/laws.FnExactNodeState", spec := "fnExactNodeState", inPlace := ["slices.overlaps[loop.example/g00954/impl.CSet]", "slices.overlaps[loop.example/g00954/impl.Said]"], unfollowed := true, recurses := true, apart := false, narrowed := true }
def FnExactNodeStateUptoSaid : Prop := fnExactNodeStateUptoRow.holds Tryz.pinned (OpenSpec.upto fnExactNodeStateSpec)

/-- 'laws.FnExactAlike', WHERE WHAT IT READS IS OF BULK AT MOST 1048576: true; the input reads as it did. -/
def fnExactAlikeUptoRow : OpenClaim := { program := "ytipncebebegacaagreat", sum := "de77619539a37e797bcabec0e1e4957a60f4c4ea9c8fe22710746f085274b1d5", func := "loop.example/g00954/laws.FnExactAlike", spec := "fnExactAlike", inPlace := ["slices.overlaps[loop.example/g00954/impl.CSet]", "slices.overlaps[loop.example/g00954/impl.Said]"], unfollowed := true, recurses := true, apart := false, narrowed := true }
def FnExactAlikeUptoSaid : Prop := fnExactAlikeUptoRow.holds Tryz.pinned (OpenSpec.upto fnExactAlikeSpec)

end Rows
end Go.Proofs.YtipncebebegacaaGreat
