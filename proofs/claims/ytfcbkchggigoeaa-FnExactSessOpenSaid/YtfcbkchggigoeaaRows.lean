/-
  No cell of these rows narrows 'for every input' (looked for: loops, veiled, ifaces, maps, wideKeys, modest, calm, conditions, laid).
  DERIVED. THE GIVEN ROWS OF THIS SEAT. 5 by the template 'for every input the law returns true; each argument reads behind the call as it read before'; 0 by the template 'total and deterministic' (their statements: YtfcbkchggigoeaaTotals.lean).
  GIVEN WITH THE SEED: the statements are not yours to turn. If you find one false, say at which input.
  Laid BY PROGRAM, IN A SANDBOX (cutbox-rows.mjs): the forced cells as the released guide's own fill.sh prints them over the translation 097f433ebb9df3a2… (all of the seat's roots in one cut). By AI agents, Wed Nov 11 2026. No macro, syntax, notation, axiom, sorry.
-/
import Derived.Test.YtfcbkchggigoeaaChecked
import GoSem.Claim
import GoSem.ClaimJoined
import GoSem.ClaimMapViews
import Derived.JoinedTies
import Derived.KernelRfl
namespace Go.Proofs.Ytfcbkchggigoeaa
/- THE CELL 'sum', in the pinned program and in every row, IS THE sha256 OF THE DUMP (.gsa) THAT YtfcbkchggigoeaaProg.lean LOADS. Nothing in Lean hashes anything: it is a label: what it is worth is what the hold of that sum in a sandbox is worth. -/
noncomputable def Try.pinned : Pinned := { name := "ytfcbkchggigoeaa", sum := "097f433ebb9df3a2f94f07a070549d2c4712288601059c434342244eb73086e6", checked := Try.checked }
namespace Rows
def none {H : Type} : Left H := { results := [], args := [] }

/-- 'laws.FnRetry': WHATEVER THE INPUT: true; the input reads as it did. -/
def fnRetrySpec : ChangeSpec := { name := "fnRetry", fn := fun _ => fun
  | [d] => { results := [.lit (.bool true)], args := [d] }
  | _ => none }
def fnRetryRow : OpenClaim := { program := "ytfcbkchggigoeaa", sum := "097f433ebb9df3a2f94f07a070549d2c4712288601059c434342244eb73086e6", func := "loop.example/g00954/laws.FnRetry", spec := "fnRetry", apart := false }
def FnRetrySaid : Prop := fnRetryRow.holds Try.pinned (OpenSpec.ofChange fnRetrySpec)

/-- ITS FALSE NEIGHBOUR: 'it returns false'. Refute it at one input. -/
def fnRetryWrong : ChangeSpec := { name := "fnRetry", fn := fun _ => fun
  | [d] => { results := [.lit (.bool false)], args := [d] }
  | _ => none }
def FnRetryWrongFalsely : Prop := fnRetryRow.holds Try.pinned (OpenSpec.ofChange fnRetryWrong)

/-- 'laws.FnExactDesksOk': WHATEVER THE INPUT: true; the input reads as it did. -/
def fnExactDesksOkSpec : ChangeSpec := { name := "fnExactDesksOk", fn := fun _ => fun
  | [d] => { results := [.lit (.bool true)], args := [d] }
  | _ => none }
def fnExactDesksOkRow : OpenClaim := { program := "ytfcbkchggigoeaa", sum := "097f433ebb9df3a2f94f07a070549d2c4712288601059c434342244eb73086e6", func := "loop.example/g00954/laws.FnExactDesksOk", spec := "fnExactDesksOk", apart := false }
def FnExactDesksOkSaid : Prop := fnExactDesksOkRow.holds Try.pinned (OpenSpec.ofChange fnExactDesksOkSpec)

/-- ITS FALSE NEIGHBOUR: 'it returns false'. Refute it at one input. -/
def fnExactDesksOkWrong : ChangeSpec := { name := "fnExactDesksOk", fn := fun _ => fun
  | [d] => { results := [.lit (.bool false)], args := [d] }
  | _ => none }
def FnExactDesksOkWrongFalsely : Prop := fnExactDesksOkRow.holds Try.pinned (OpenSpec.ofChange fnExactDesksOkWrong)

/-- 'laws.FnExactUpHas': WHATEVER THE INPUT: true; the input reads as it did. -/
def fnExactUpHasSpec : ChangeSpec := { name := "fnExactUpHas", fn := fun _ => fun
  | [d1, d2] => { results := [.lit (.bool true)], args := [d1, d2] }
  | _ => none }
def fnExactUpHasRow : OpenClaim := { program := "ytfcbkchggigoeaa", sum := "097f433ebb9df3a2f94f07a070549d2c4712288601059c434342244eb73086e6", func := "loop.example/g00954/laws.FnExactUpHas", spec := "fnExactUpHas", unfollowed := true, recurses := true, apart := false }
def FnExactUpHasSaid : Prop := fnExactUpHasRow.holds Try.pinned (OpenSpec.ofChange fnExactUpHasSpec)

/-- ITS FALSE NEIGHBOUR: 'it returns false'. Refute it at one input. -/
def fnExactUpHasWrong : ChangeSpec := { name := "fnExactUpHas", fn := fun _ => fun
  | [d1, d2] => { results := [.lit (.bool false)], args := [d1, d2] }
  | _ => none }
def FnExactUpHasWrongFalsely : Prop := fnExactUpHasRow.holds Try.pinned (OpenSpec.ofChange fnExactUpHasWrong)

/-- 'laws.FnExactSessOf': WHATEVER THE INPUT: true; the input reads as it did. -/
def fnExactSessOfSpec : ChangeSpec := { name := "fnExactSessOf", fn := fun _ => fun
  | [d1, d2] => { results := [.lit (.bool true)], args := [d1, d2] }
  | _ => none }
def fnExactSessOfRow : OpenClaim := { program := "ytfcbkchggigoeaa", sum := "097f433ebb9df3a2f94f07a070549d2c4712288601059c434342244eb73086e6", func := "loop.example/g00954/laws.FnExactSessOf", spec := "fnExactSessOf", apart := false }
def FnExactSessOfSaid : Prop := fnExactSessOfRow.holds Try.pinned (OpenSpec.ofChange fnExactSessOfSpec)

/-- ITS FALSE NEIGHBOUR: 'it returns false'. Refute it at one input. -/
def fnExactSessOfWrong : ChangeSpec := { name := "fnExactSessOf", fn := fun _ => fun
  | [d1, d2] => { results := [.lit (.bool false)], args := [d1, d2] }
  | _ => none }
def FnExactSessOfWrongFalsely : Prop := fnExactSessOfRow.holds Try.pinned (OpenSpec.ofChange fnExactSessOfWrong)

/-- 'laws.FnExactSessOpen': WHATEVER THE INPUT: true; the input reads as it did. -/
def fnExactSessOpenSpec : ChangeSpec := { name := "fnExactSessOpen", fn := fun _ => fun
  | [d1, d2, d3] => { results := [.lit (.bool true)], args := [d1, d2, d3] }
  | _ => none }
def fnExactSessOpenRow : OpenClaim := { program := "ytfcbkchggigoeaa", sum := "097f433ebb9df3a2f94f07a070549d2c4712288601059c434342244eb73086e6", func := "loop.example/g00954/laws.FnExactSessOpen", spec := "fnExactSessOpen", apart := false }
def FnExactSessOpenSaid : Prop := fnExactSessOpenRow.holds Try.pinned (OpenSpec.ofChange fnExactSessOpenSpec)

/-- ITS FALSE NEIGHBOUR: 'it returns false'. Refute it at one input. -/
def fnExactSessOpenWrong : ChangeSpec := { name := "fnExactSessOpen", fn := fun _ => fun
  | [d1, d2, d3] => { results := [.lit (.bool false)], args := [d1, d2, d3] }
  | _ => none }
def FnExactSessOpenWrongFalsely : Prop := fnExactSessOpenRow.holds Try.pinned (OpenSpec.ofChange fnExactSessOpenWrong)

/- THE SECOND FORM. 'bulk': how many values and letters a reading holds, each counted each time it is reached (what is shared counts as often as it is met; a slice's spare places count too). A statement '..UptoSaid' is the law's where the arguments, and the package variables that the reading takes, are together of bulk at most 1048576: NARROWER than '..Said'. Prove '..Said' where nothing that the law and all that it calls make is longer than what came in: it says more and counts as full. Else prove '..UptoSaid'. A law counts once. -/
mutual
def uptoBulk {H : Type} : DataW H → Nat
  | .lit (.string bytes) => bytes.length + 1
  | .lit _ => 1
  | .nil => 1
  | .ptr d => uptoBulk d + 1
  | .slice elems spare => uptoBulkAll elems + uptoBulkAll spare + 1
  | .agg parts => uptoBulkAll parts + 1
  | .iface _ d => uptoBulk d + 1
  | .map entries => uptoBulkEntries entries + 1
  | .held _ => 1
def uptoBulkAll {H : Type} : List (DataW H) → Nat
  | [] => 0
  | d :: r => uptoBulk d + uptoBulkAll r
def uptoBulkEntries {H : Type} : List (Lit × DataW H) → Nat
  | [] => 0
  | x :: r => uptoBulkEntry x + uptoBulkEntries r
def uptoBulkEntry {H : Type} : Lit × DataW H → Nat
  | (.string bytes, d) => bytes.length + uptoBulk d + 1
  | (_, d) => uptoBulk d + 1
 end
def uptoSmall : (H : Type) → List (DataW H) → Bool := fun _ ds => decide (uptoBulkAll ds ≤ 1048576)
def OpenSpec.upto (s : _root_.Go.ChangeSpec) : _root_.Go.OpenSpec := { _root_.Go.OpenSpec.ofChange s with cond := some uptoSmall }

/-- 'laws.FnRetry', WHERE WHAT IT READS IS OF BULK AT MOST 1048576: true; the input reads as it did. -/
def fnRetryUptoRow : OpenClaim := { program := "ytfcbkchggigoeaa", sum := "097f433ebb9df3a2f94f07a070549d2c4712288601059c434342244eb73086e6", func := "loop.example/g00954/laws.FnRetry", spec := "fnRetry", apart := false, narrowed := true }
def FnRetryUptoSaid : Prop := fnRetryUptoRow.holds Try.pinned (OpenSpec.upto fnRetrySpec)

/-- 'laws.FnExactDesksOk', WHERE WHAT IT READS IS OF BULK AT MOST 1048576: true; the input reads as it did. -/
def fnExactDesksOkUptoRow : OpenClaim := { program := "ytfcbkchggigoeaa", sum := "097f433ebb9df3a2f94f07a070549d2c4712288601059c434342244eb73086e6", func := "loop.example/g00954/laws.FnExactDesksOk", spec := "fnExactDesksOk", apart := false, narrowed := true }
def FnExactDesksOkUptoSaid : Prop := fnExactDesksOkUptoRow.holds Try.pinned (OpenSpec.upto fnExactDesksOkSpec)

/-- 'laws.FnExactUpHas', WHERE WHAT IT READS IS OF BULK AT MOST 1048576: true; the input reads as it did. -/
def fnExactUpHasUptoRow : OpenClaim := { program := "ytfcbkchggigoeaa", sum := "097f433ebb9df3a2f94f07a070549d2c4712288601059c434342244eb73086e6", func := "loop.example/g00954/laws.FnExactUpHas", spec := "fnExactUpHas", unfollowed := true, recurses := true, apart := false, narrowed := true }
def FnExactUpHasUptoSaid : Prop := fnExactUpHasUptoRow.holds Try.pinned (OpenSpec.upto fnExactUpHasSpec)

/-- 'laws.FnExactSessOf', WHERE WHAT IT READS IS OF BULK AT MOST 1048576: true; the input reads as it did. -/
def fnExactSessOfUptoRow : OpenClaim := { program := "ytfcbkchggigoeaa", sum := "097f433ebb9df3a2f94f07a070549d2c4712288601059c434342244eb73086e6", func := "loop.example/g00954/laws.FnExactSessOf", spec := "fnExactSessOf", apart := false, narrowed := true }
def FnExactSessOfUptoSaid : Prop := fnExactSessOfUptoRow.holds Try.pinned (OpenSpec.upto fnExactSessOfSpec)

/-- 'laws.FnExactSessOpen', WHERE WHAT IT READS IS OF BULK AT MOST 1048576: true; the input reads as it did. -/
def fnExactSessOpenUptoRow : OpenClaim := { program := "ytfcbkchggigoeaa", sum := "097f433ebb9df3a2f94f07a070549d2c4712288601059c434342244eb73086e6", func := "loop.example/g00954/laws.FnExactSessOpen", spec := "fnExactSessOpen", apart := false, narrowed := true }
def FnExactSessOpenUptoSaid : Prop := fnExactSessOpenUptoRow.holds Try.pinned (OpenSpec.upto fnExactSessOpenSpec)

end Rows
end Go.Proofs.Ytfcbkchggigoeaa
