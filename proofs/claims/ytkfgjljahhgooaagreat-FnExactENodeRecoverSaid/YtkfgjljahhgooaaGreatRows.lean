/-
  No cell of these rows narrows 'for every input' (looked for: loops, veiled, ifaces, maps, wideKeys, modest, calm, conditions, laid).
  DERIVED. THE GIVEN ROWS OF THIS SEAT. 4 by the template 'for every input the law returns true; each argument reads behind the call as it read before'; 0 by the template 'total and deterministic' (their statements: YtkfgjljahhgooaaGreatTotals.lean).
  GIVEN WITH THE SEED: the statements are not yours to turn. If you find one false, say at which input.
  Laid BY PROGRAM, IN A SANDBOX (cutbox-rows.mjs): the forced cells as the released guide's own fill.sh prints them over the translation 8cb945274c208104… (all of the seat's roots in one cut). By AI agents, Wed Nov 11 2026. No macro, syntax, notation, axiom, sorry.
-/
import Derived.Test.YtkfgjljahhgooaaGreatChecked
import GoSem.Claim
import GoSem.ClaimJoined
import GoSem.ClaimMapViews
import Derived.JoinedTies
import Derived.KernelRfl
namespace Go.Proofs.YtkfgjljahhgooaaGreat
/- THE CELL 'sum', in the pinned program and in every row, IS THE sha256 OF THE DUMP (.gsa) THAT YtkfgjljahhgooaaGreatProg.lean LOADS. Nothing in Lean hashes anything: it is a label: what it is worth is what the hold of that sum in a sandbox is worth. -/
noncomputable def Tryz.pinned : Pinned := { name := "ytkfgjljahhgooaagreat", sum := "8cb945274c20810444d543546379006fa6b4bad6cfba1540dc71b53bfbfb0c01", checked := Tryz.checked }
namespace Rows
def none {H : Type} : Left H := { results := [], args := [] }

/-- 'laws.FnNode': WHATEVER THE INPUT: true; the input reads as it did. -/
def fnNodeSpec : ChangeSpec := { name := "fnNode", fn := fun _ => fun
  | [d] => { results := [.lit (.bool true)], args := [d] }
  | _ => none }
def fnNodeRow : OpenClaim := { program := "ytkfgjljahhgooaagreat", sum := "8cb945274c20810444d543546379006fa6b4bad6cfba1540dc71b53bfbfb0c01", func := "loop.example/g00954/laws.FnNode", spec := "fnNode", unfollowed := true, recurses := true, apart := false }
def FnNodeSaid : Prop := fnNodeRow.holds Tryz.pinned (OpenSpec.ofChange fnNodeSpec)

/-- ITS FALSE NEIGHBOUR: 'it returns false'. Refute it at one input. -/
def fnNodeWrong : ChangeSpec := { name := "fnNode", fn := fun _ => fun
  | [d] => { results := [.lit (.bool false)], args := [d] }
  | _ => none }
def FnNodeWrongFalsely : Prop := fnNodeRow.holds Tryz.pinned (OpenSpec.ofChange fnNodeWrong)

/-- 'laws.FnExactENodeRecover': WHATEVER THE INPUT: true; the input reads as it did. -/
def fnExactENodeRecoverSpec : ChangeSpec := { name := "fnExactENodeRecover", fn := fun _ => fun
  | [d1, d2] => { results := [.lit (.bool true)], args := [d1, d2] }
  | _ => none }
def fnExactENodeRecoverRow : OpenClaim := { program := "ytkfgjljahhgooaagreat", sum := "8cb945274c20810444d543546379006fa6b4bad6cfba1540dc71b53bfbfb0c01", func := "loop.example/g00954/laws.FnExactENodeRecover", spec := "fnExactENodeRecover", unfollowed := true, recurses := true, apart := false }
def FnExactENodeRecoverSaid : Prop := fnExactENodeRecoverRow.holds Tryz.pinned (OpenSpec.ofChange fnExactENodeRecoverSpec)

/-- ITS FALSE NEIGHBOUR: 'it returns false'. Refute it at one input. -/
def fnExactENodeRecoverWrong : ChangeSpec := { name := "fnExactENodeRecover", fn := fun _ => fun
  | [d1, d2] => { results := [.lit (.bool false)], args := [d1, d2] }
  | _ => none }
def FnExactENodeRecoverWrongFalsely : Prop := fnExactENodeRecoverRow.holds Tryz.pinned (OpenSpec.ofChange fnExactENodeRecoverWrong)

/-- 'laws.FnExactENodeOffer': WHATEVER THE INPUT: true; the input reads as it did. -/
def fnExactENodeOfferSpec : ChangeSpec := { name := "fnExactENodeOffer", fn := fun _ => fun
  | [d1, d2] => { results := [.lit (.bool true)], args := [d1, d2] }
  | _ => none }
def fnExactENodeOfferRow : OpenClaim := { program := "ytkfgjljahhgooaagreat", sum := "8cb945274c20810444d543546379006fa6b4bad6cfba1540dc71b53bfbfb0c01", func := "loop.example/g00954/laws.FnExactENodeOffer", spec := "fnExactENodeOffer", unfollowed := true, recurses := true, apart := false }
def FnExactENodeOfferSaid : Prop := fnExactENodeOfferRow.holds Tryz.pinned (OpenSpec.ofChange fnExactENodeOfferSpec)

/-- ITS FALSE NEIGHBOUR: 'it returns false'. Refute it at one input. -/
def fnExactENodeOfferWrong : ChangeSpec := { name := "fnExactENodeOffer", fn := fun _ => fun
  | [d1, d2] => { results := [.lit (.bool false)], args := [d1, d2] }
  | _ => none }
def FnExactENodeOfferWrongFalsely : Prop := fnExactENodeOfferRow.holds Tryz.pinned (OpenSpec.ofChange fnExactENodeOfferWrong)

/-- 'laws.FnExactENodeSlow': WHATEVER THE INPUT: true; the input reads as it did. -/
def fnExactENodeSlowSpec : ChangeSpec := { name := "fnExactENodeSlow", fn := fun _ => fun
  | [d1, d2] => { results := [.lit (.bool true)], args := [d1, d2] }
  | _ => none }
def fnExactENodeSlowRow : OpenClaim := { program := "ytkfgjljahhgooaagreat", sum := "8cb945274c20810444d543546379006fa6b4bad6cfba1540dc71b53bfbfb0c01", func := "loop.example/g00954/laws.FnExactENodeSlow", spec := "fnExactENodeSlow", unfollowed := true, recurses := true, apart := false }
def FnExactENodeSlowSaid : Prop := fnExactENodeSlowRow.holds Tryz.pinned (OpenSpec.ofChange fnExactENodeSlowSpec)

/-- ITS FALSE NEIGHBOUR: 'it returns false'. Refute it at one input. -/
def fnExactENodeSlowWrong : ChangeSpec := { name := "fnExactENodeSlow", fn := fun _ => fun
  | [d1, d2] => { results := [.lit (.bool false)], args := [d1, d2] }
  | _ => none }
def FnExactENodeSlowWrongFalsely : Prop := fnExactENodeSlowRow.holds Tryz.pinned (OpenSpec.ofChange fnExactENodeSlowWrong)

/- THE SECOND FORM. 'bulk': how many values and letters a reading holds, each counted each time it is reached (what is shared counts as often as it is met; a slice's spare places count too). A statement '..UptoSaid' is the law's where the arguments, and the package variables that the reading takes, are together of bulk at most 1048576: NARROWER than '..Said'. Prove '..Said' where nothing that the law and all that it calls make is longer than what came in: it says more and counts as full. Else prove '..UptoSaid'. A law counts once. -/
mutual
def uptoBulk {H : Type} : DataW H → Nat
  | .lit (.string bytes) => bytes.length + 1
  | .lit _ => 1
  | .nil => 1
  | .ptr d => uptoBulk d + 1
  | .slice elems spare => uptoBulkAll elems + uptoBulkAll spare + 1
  | .agg parts => uptoBulkAll parts + 1
  | .iface _ d => uptoBulk d + 1
  | .map entries => uptoBulkEntries entries + 1
  | .held _ => 1
def uptoBulkAll {H : Type} : List (DataW H) → Nat
  | [] => 0
  | d :: r => uptoBulk d + uptoBulkAll r
def uptoBulkEntries {H : Type} : List (Lit × DataW H) → Nat
  | [] => 0
  | x :: r => uptoBulkEntry x + uptoBulkEntries r
def uptoBulkEntry {H : Type} : Lit × DataW H → Nat
  | (.string bytes, d) => bytes.length + uptoBulk d + 1
  | (_, d) => uptoBulk d + 1
 end
def uptoSmall : (H : Type) → List (DataW H) → Bool := fun _ ds => decide (uptoBulkAll ds ≤ 1048576)
def OpenSpec.upto (s : _root_.Go.ChangeSpec) : _root_.Go.OpenSpec := { _root_.Go.OpenSpec.ofChange s with cond := some uptoSmall }

/-- 'laws.FnNode', WHERE WHAT IT READS IS OF BULK AT MOST 1048576: true; the input reads as it did. -/
def fnNodeUptoRow : OpenClaim := { program := "ytkfgjljahhgooaagreat", sum := "8cb945274c20810444d543546379006fa6b4bad6cfba1540dc71b53bfbfb0c01", func := "loop.example/g00954/laws.FnNode", spec := "fnNode", unfollowed := true, recurses := true, apart := false, narrowed := true }
def FnNodeUptoSaid : Prop := fnNodeUptoRow.holds Tryz.pinned (OpenSpec.upto fnNodeSpec)

/-- 'laws.FnExactENodeRecover', WHERE WHAT IT READS IS OF BULK AT MOST 1048576: true; the input reads as it did. -/
def fnExactENodeRecoverUptoRow : OpenClaim := { program := "ytkfgjljahhgooaagreat", sum := "8cb945274c20810444d543546379006fa6b4bad6cfba1540dc71b53bfbfb0c01", func := "loop.example/g00954/laws.FnExactENodeRecover", spec := "fnExactENodeRecover", unfollowed := true, recurses := true, apart := false, narrowed := true }
def FnExactENodeRecoverUptoSaid : Prop := fnExactENodeRecoverUptoRow.holds Tryz.pinned (OpenSpec.upto fnExactENodeRecoverSpec)

/-- 'laws.FnExactENodeOffer', WHERE WHAT IT READS IS OF BULK AT MOST 1048576: true; the input reads as it did. -/
def fnExactENodeOfferUptoRow : OpenClaim := { program := "ytkfgjljahhgooaagreat", sum := "8cb945274c20810444d543546379006fa6b4bad6cfba1540dc71b53bfbfb0c01", func := "loop.example/g00954/laws.FnExactENodeOffer", spec := "fnExactENodeOffer", unfollowed := true, recurses := true, apart := false, narrowed := true }
def FnExactENodeOfferUptoSaid : Prop := fnExactENodeOfferUptoRow.holds Tryz.pinned (OpenSpec.upto fnExactENodeOfferSpec)

/-- 'laws.FnExactENodeSlow', WHERE WHAT IT READS IS OF BULK AT MOST 1048576: true; the input reads as it did. -/
def fnExactENodeSlowUptoRow : OpenClaim := { program := "ytkfgjljahhgooaagreat", sum := "8cb945274c20810444d543546379006fa6b4bad6cfba1540dc71b53bfbfb0c01", func := "loop.example/g00954/laws.FnExactENodeSlow", spec := "fnExactENodeSlow", unfollowed := true, recurses := true, apart := false, narrowed := true }
def FnExactENodeSlowUptoSaid : Prop := fnExactENodeSlowUptoRow.holds Tryz.pinned (OpenSpec.upto fnExactENodeSlowSpec)

end Rows
end Go.Proofs.YtkfgjljahhgooaaGreat
