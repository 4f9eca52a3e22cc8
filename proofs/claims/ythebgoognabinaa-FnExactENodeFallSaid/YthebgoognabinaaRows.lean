/-
  No cell of these rows narrows 'for every input' (looked for: loops, veiled, ifaces, maps, wideKeys, modest, calm, conditions, laid).
  DERIVED. THE GIVEN ROWS OF THIS SEAT. 11 by the template 'for every input the law returns true; each argument reads behind the call as it read before'; 0 by the template 'total and deterministic' (their statements: YthebgoognabinaaTotals.lean).
  GIVEN WITH THE SEED: the statements are not yours to turn. If you find one false, say at which input.
  Laid BY PROGRAM, IN A SANDBOX (cutbox-rows.mjs): the forced cells as the released guide's own fill.sh prints them over the translation 39bdac4f5a225c0b… (all of the seat's roots in one cut). By AI agents, Wed Nov 11 2026. No macro, syntax, notation, axiom, sorry.
-/
import Derived.Test.YthebgoognabinaaChecked
import GoSem.Claim
import GoSem.ClaimJoined
import GoSem.ClaimMapViews
import Derived.JoinedTies
import Derived.KernelRfl
namespace Go.Proofs.Ythebgoognabinaa
/- THE CELL 'sum', in the pinned program and in every row, IS THE sha256 OF THE DUMP (.gsa) THAT YthebgoognabinaaProg.lean LOADS. Nothing in Lean hashes anything: it is a label: what it is worth is what the hold of that sum in a sandbox is worth. -/
noncomputable def Try.pinned : Pinned := { name := "ythebgoognabinaa", sum := "39bdac4f5a225c0b736e1ff794a2344ec53577032b63758c4b47d9bf7a0db284", checked := Try.checked }
namespace Rows
def none {H : Type} : Left H := { results := [], args := [] }

/-- 'laws.FnExactUpLost': WHATEVER THE INPUT: true; the input reads as it did. -/
def fnExactUpLostSpec : ChangeSpec := { name := "fnExactUpLost", fn := fun _ => fun
  | [d1, d2, d3] => { results := [.lit (.bool true)], args := [d1, d2, d3] }
  | _ => none }
def fnExactUpLostRow : OpenClaim := { program := "ythebgoognabinaa", sum := "39bdac4f5a225c0b736e1ff794a2344ec53577032b63758c4b47d9bf7a0db284", func := "loop.example/g00954/laws.FnExactUpLost", spec := "fnExactUpLost", unfollowed := true, recurses := true, apart := false }
def FnExactUpLostSaid : Prop := fnExactUpLostRow.holds Try.pinned (OpenSpec.ofChange fnExactUpLostSpec)

/-- ITS FALSE NEIGHBOUR: 'it returns false'. Refute it at one input. -/
def fnExactUpLostWrong : ChangeSpec := { name := "fnExactUpLost", fn := fun _ => fun
  | [d1, d2, d3] => { results := [.lit (.bool false)], args := [d1, d2, d3] }
  | _ => none }
def FnExactUpLostWrongFalsely : Prop := fnExactUpLostRow.holds Try.pinned (OpenSpec.ofChange fnExactUpLostWrong)

/-- 'laws.FnExactUpAck': WHATEVER THE INPUT: true; the input reads as it did. -/
def fnExactUpAckSpec : ChangeSpec := { name := "fnExactUpAck", fn := fun _ => fun
  | [d1, d2, d3] => { results := [.lit (.bool true)], args := [d1, d2, d3] }
  | _ => none }
def fnExactUpAckRow : OpenClaim := { program := "ythebgoognabinaa", sum := "39bdac4f5a225c0b736e1ff794a2344ec53577032b63758c4b47d9bf7a0db284", func := "loop.example/g00954/laws.FnExactUpAck", spec := "fnExactUpAck", inPlace := ["slices.overlaps[loop.example/g00954/impl.Up]"], unfollowed := true, recurses := true, apart := false }
def FnExactUpAckSaid : Prop := fnExactUpAckRow.holds Try.pinned (OpenSpec.ofChange fnExactUpAckSpec)

/-- ITS FALSE NEIGHBOUR: 'it returns false'. Refute it at one input. -/
def fnExactUpAckWrong : ChangeSpec := { name := "fnExactUpAck", fn := fun _ => fun
  | [d1, d2, d3] => { results := [.lit (.bool false)], args := [d1, d2, d3] }
  | _ => none }
def FnExactUpAckWrongFalsely : Prop := fnExactUpAckRow.holds Try.pinned (OpenSpec.ofChange fnExactUpAckWrong)

/-- 'laws.FnExactRepairAll': WHATEVER THE INPUT: true; the input reads as it did. -/
def fnExactRepairAllSpec : ChangeSpec := { name := "fnExactRepairAll", fn := fun _ => fun
  | [d1, d2] => { results := [.lit (.bool true)], args := [d1, d2] }
  | _ => none }
def fnExactRepairAllRow : OpenClaim := { program := "ythebgoognabinaa", sum := "39bdac4f5a225c0b736e1ff794a2344ec53577032b63758c4b47d9bf7a0db284", func := "loop.example/g00954/laws.FnExactRepairAll", spec := "fnExactRepairAll", unfollowed := true, recurses := true, apart := false }
def FnExactRepairAllSaid : Prop := fnExactRepairAllRow.holds Try.pinned (OpenSpec.ofChange fnExactRepairAllSpec)

/-- ITS FALSE NEIGHBOUR: 'it returns false'. Refute it at one input. -/
def fnExactRepairAllWrong : ChangeSpec := { name := "fnExactRepairAll", fn := fun _ => fun
  | [d1, d2] => { results := [.lit (.bool false)], args := [d1, d2] }
  | _ => none }
def FnExactRepairAllWrongFalsely : Prop := fnExactRepairAllRow.holds Try.pinned (OpenSpec.ofChange fnExactRepairAllWrong)

/-- 'laws.FnSessions': WHATEVER THE INPUT: true; the input reads as it did. -/
def fnSessionsSpec : ChangeSpec := { name := "fnSessions", fn := fun _ => fun
  | [d] => { results := [.lit (.bool true)], args := [d] }
  | _ => none }
def fnSessionsRow : OpenClaim := { program := "ythebgoognabinaa", sum := "39bdac4f5a225c0b736e1ff794a2344ec53577032b63758c4b47d9bf7a0db284", func := "loop.example/g00954/laws.FnSessions", spec := "fnSessions", unfollowed := true, recurses := true, apart := false }
def FnSessionsSaid : Prop := fnSessionsRow.holds Try.pinned (OpenSpec.ofChange fnSessionsSpec)

/-- ITS FALSE NEIGHBOUR: 'it returns false'. Refute it at one input. -/
def fnSessionsWrong : ChangeSpec := { name := "fnSessions", fn := fun _ => fun
  | [d] => { results := [.lit (.bool false)], args := [d] }
  | _ => none }
def FnSessionsWrongFalsely : Prop := fnSessionsRow.holds Try.pinned (OpenSpec.ofChange fnSessionsWrong)

/-- 'laws.FnFrames': WHATEVER THE INPUT: true; the input reads as it did. -/
def fnFramesSpec : ChangeSpec := { name := "fnFrames", fn := fun _ => fun
  | [d] => { results := [.lit (.bool true)], args := [d] }
  | _ => none }
def fnFramesRow : OpenClaim := { program := "ythebgoognabinaa", sum := "39bdac4f5a225c0b736e1ff794a2344ec53577032b63758c4b47d9bf7a0db284", func := "loop.example/g00954/laws.FnFrames", spec := "fnFrames", apart := false }
def FnFramesSaid : Prop := fnFramesRow.holds Try.pinned (OpenSpec.ofChange fnFramesSpec)

/-- ITS FALSE NEIGHBOUR: 'it returns false'. Refute it at one input. -/
def fnFramesWrong : ChangeSpec := { name := "fnFrames", fn := fun _ => fun
  | [d] => { results := [.lit (.bool false)], args := [d] }
  | _ => none }
def FnFramesWrongFalsely : Prop := fnFramesRow.holds Try.pinned (OpenSpec.ofChange fnFramesWrong)

/-- 'laws.FnLog': WHATEVER THE INPUT: true; the input reads as it did. -/
def fnLogSpec : ChangeSpec := { name := "fnLog", fn := fun _ => fun
  | [d] => { results := [.lit (.bool true)], args := [d] }
  | _ => none }
def fnLogRow : OpenClaim := { program := "ythebgoognabinaa", sum := "39bdac4f5a225c0b736e1ff794a2344ec53577032b63758c4b47d9bf7a0db284", func := "loop.example/g00954/laws.FnLog", spec := "fnLog", apart := false }
def FnLogSaid : Prop := fnLogRow.holds Try.pinned (OpenSpec.ofChange fnLogSpec)

/-- ITS FALSE NEIGHBOUR: 'it returns false'. Refute it at one input. -/
def fnLogWrong : ChangeSpec := { name := "fnLog", fn := fun _ => fun
  | [d] => { results := [.lit (.bool false)], args := [d] }
  | _ => none }
def FnLogWrongFalsely : Prop := fnLogRow.holds Try.pinned (OpenSpec.ofChange fnLogWrong)

/-- 'laws.FnRetry': WHATEVER THE INPUT: true; the input reads as it did. -/
def fnRetrySpec : ChangeSpec := { name := "fnRetry", fn := fun _ => fun
  | [d] => { results := [.lit (.bool true)], args := [d] }
  | _ => none }
def fnRetryRow : OpenClaim := { program := "ythebgoognabinaa", sum := "39bdac4f5a225c0b736e1ff794a2344ec53577032b63758c4b47d9bf7a0db284", func := "loop.example/g00954/laws.FnRetry", spec := "fnRetry", apart := false }
def FnRetrySaid : Prop := fnRetryRow.holds Try.pinned (OpenSpec.ofChange fnRetrySpec)

/-- ITS FALSE NEIGHBOUR: 'it returns false'. Refute it at one input. -/
def fnRetryWrong : ChangeSpec := { name := "fnRetry", fn := fun _ => fun
  | [d] => { results := [.lit (.bool false)], args := [d] }
  | _ => none }
def FnRetryWrongFalsely : Prop := fnRetryRow.holds Try.pinned (OpenSpec.ofChange fnRetryWrong)

/-- 'laws.FnExactSafe': WHATEVER THE INPUT: true; the input reads as it did. -/
def fnExactSafeSpec : ChangeSpec := { name := "fnExactSafe", fn := fun _ => fun
  | [d1, d2] => { results := [.lit (.bool true)], args := [d1, d2] }
  | _ => none }
def fnExactSafeRow : OpenClaim := { program := "ythebgoognabinaa", sum := "39bdac4f5a225c0b736e1ff794a2344ec53577032b63758c4b47d9bf7a0db284", func := "loop.example/g00954/laws.FnExactSafe", spec := "fnExactSafe", unfollowed := true, recurses := true, apart := false }
def FnExactSafeSaid : Prop := fnExactSafeRow.holds Try.pinned (OpenSpec.ofChange fnExactSafeSpec)

/-- ITS FALSE NEIGHBOUR: 'it returns false'. Refute it at one input. -/
def fnExactSafeWrong : ChangeSpec := { name := "fnExactSafe", fn := fun _ => fun
  | [d1, d2] => { results := [.lit (.bool false)], args := [d1, d2] }
  | _ => none }
def FnExactSafeWrongFalsely : Prop := fnExactSafeRow.holds Try.pinned (OpenSpec.ofChange fnExactSafeWrong)

/-- 'laws.FnExactLost': WHATEVER THE INPUT: true; the input reads as it did. -/
def fnExactLostSpec : ChangeSpec := { name := "fnExactLost", fn := fun _ => fun
  | [d1, d2, d3] => { results := [.lit (.bool true)], args := [d1, d2, d3] }
  | _ => none }
def fnExactLostRow : OpenClaim := { program := "ythebgoognabinaa", sum := "39bdac4f5a225c0b736e1ff794a2344ec53577032b63758c4b47d9bf7a0db284", func := "loop.example/g00954/laws.FnExactLost", spec := "fnExactLost", unfollowed := true, recurses := true, apart := false }
def FnExactLostSaid : Prop := fnExactLostRow.holds Try.pinned (OpenSpec.ofChange fnExactLostSpec)

/-- ITS FALSE NEIGHBOUR: 'it returns false'. Refute it at one input. -/
def fnExactLostWrong : ChangeSpec := { name := "fnExactLost", fn := fun _ => fun
  | [d1, d2, d3] => { results := [.lit (.bool false)], args := [d1, d2, d3] }
  | _ => none }
def FnExactLostWrongFalsely : Prop := fnExactLostRow.holds Try.pinned (OpenSpec.ofChange fnExactLostWrong)

/-- 'laws.FnExactENodeFall': WHATEVER THE INPUT: true; the input reads as it did. -/
def fnExactENodeFallSpec : ChangeSpec := { name := "fnExactENodeFall", fn := fun _ => fun
  | [d] => { results := [.lit (.bool true)], args := [d] }
  | _ => none }
def fnExactENodeFallRow : OpenClaim := { program := "ythebgoognabinaa", sum := "39bdac4f5a225c0b736e1ff794a2344ec53577032b63758c4b47d9bf7a0db284", func := "loop.example/g00954/laws.FnExactENodeFall", spec := "fnExactENodeFall", unfollowed := true, recurses := true, apart := false }
def FnExactENodeFallSaid : Prop := fnExactENodeFallRow.holds Try.pinned (OpenSpec.ofChange fnExactENodeFallSpec)

/-- ITS FALSE NEIGHBOUR: 'it returns false'. Refute it at one input. -/
def fnExactENodeFallWrong : ChangeSpec := { name := "fnExactENodeFall", fn := fun _ => fun
  | [d] => { results := [.lit (.bool false)], args := [d] }
  | _ => none }
def FnExactENodeFallWrongFalsely : Prop := fnExactENodeFallRow.holds Try.pinned (OpenSpec.ofChange fnExactENodeFallWrong)

/-- 'laws.FnUploads': WHATEVER THE INPUT: true; the input reads as it did. -/
def fnUploadsSpec : ChangeSpec := { name := "fnUploads", fn := fun _ => fun
  | [d] => { results := [.lit (.bool true)], args := [d] }
  | _ => none }
def fnUploadsRow : OpenClaim := { program := "ythebgoognabinaa", sum := "39bdac4f5a225c0b736e1ff794a2344ec53577032b63758c4b47d9bf7a0db284", func := "loop.example/g00954/laws.FnUploads", spec := "fnUploads", inPlace := ["slices.overlaps[loop.example/g00954/impl.Up]"], unfollowed := true, recurses := true, apart := false }
def FnUploadsSaid : Prop := fnUploadsRow.holds Try.pinned (OpenSpec.ofChange fnUploadsSpec)

/-- ITS FALSE NEIGHBOUR: 'it returns false'. Refute it at one input. -/
def fnUploadsWrong : ChangeSpec := { name := "fnUploads", fn := fun _ => fun
  | [d] => { results := [.lit (.bool false)], args := [d] }
  | _ => none }
def FnUploadsWrongFalsely : Prop := fnUploadsRow.holds Try.pinned (OpenSpec.ofChange fnUploadsWrong)

/- THE SECOND FORM. 'bulk': how many values and letters a reading holds, each counted each time it is reached (what is shared counts as often as it is met; a slice's spare places count too). A statement '..UptoSaid' is the law's where the arguments, and the package variables that the reading takes, are together of bulk at most 1048576: NARROWER than '..Said'. Prove '..Said' where nothing that the law and all that it calls make is longer than what came in: it says more and counts as full. Else prove '..UptoSaid'. A law counts once. -/
mutual
def uptoBulk {H : Type} : DataW H → Nat
  | .lit (.string bytes) => bytes.length + 1
  | .lit _ => 1
  | .nil => 1
  | .ptr d => uptoBulk d + 1
  | .slice elems spare => uptoBulkAll elems + uptoBulkAll spare + 1
  | .agg parts => uptoBulkAll parts + 1
  | .iface _ d => uptoBulk d + 1
  | .map entries => uptoBulkEntries entries + 1
  | .held _ => 1
def uptoBulkAll {H : Type} : List (DataW H) → Nat
  | [] => 0
  | d :: r => uptoBulk d + uptoBulkAll r
def uptoBulkEntries {H : Type} : List (Lit × DataW H) → Nat
  | [] => 0
  | x :: r => uptoBulkEntry x + uptoBulkEntries r
def uptoBulkEntry {H : Type} : Lit × DataW H → Nat
  | (.string bytes, d) => bytes.length + uptoBulk d + 1
  | (_, d) => uptoBulk d + 1
 end
def uptoSmall : (H : Type) → List (DataW H) → Bool := fun _ ds => decide (uptoBulkAll ds ≤ 1048576)
def OpenSpec.upto (s : _root_.Go.ChangeSpec) : _root_.Go.OpenSpec := { _root_.Go.OpenSpec.ofChange s with cond := some uptoSmall }

/-- 'laws.FnExactUpLost', WHERE WHAT IT READS IS OF BULK AT MOST 1048576: true; the input reads as it did. -/
def fnExactUpLostUptoRow : OpenClaim := { program := "ythebgoognabinaa", sum := "39bdac4f5a225c0b736e1ff794a2344ec53577032b63758c4b47d9bf7a0db284", func := "loop.example/g00954/laws.FnExactUpLost", spec := "fnExactUpLost", unfollowed := true, recurses := true, apart := false, narrowed := true }
def FnExactUpLostUptoSaid : Prop := fnExactUpLostUptoRow.holds Try.pinned (OpenSpec.upto fnExactUpLostSpec)

/-- 'laws.FnExactUpAck', WHERE WHAT IT READS IS OF BULK AT MOST 1048576: true; the input reads as it did. -/
def fnExactUpAckUptoRow : OpenClaim := { program := "ythebgoognabinaa", sum := "39bdac4f5a225c0b736e1ff794a2344ec53577032b63758c4b47d9bf7a0db284", func := "loop.example/g00954/laws.FnExactUpAck", spec := "fnExactUpAck", inPlace := ["slices.overlaps[loop.example/g00954/impl.Up]"], unfollowed := true, recurses := true, apart := false, narrowed := true }
def FnExactUpAckUptoSaid : Prop := fnExactUpAckUptoRow.holds Try.pinned (OpenSpec.upto fnExactUpAckSpec)

/-- 'laws.FnExactRepairAll', WHERE WHAT IT READS IS OF BULK AT MOST 1048576: true; the input reads as it did. -/
def fnExactRepairAllUptoRow : OpenClaim := { program := "ythebgoognabinaa", sum := "39bdac4f5a225c0b736e1ff794a2344ec53577032b63758c4b47d9bf7a0db284", func := "loop.example/g00954/laws.FnExactRepairAll", spec := "fnExactRepairAll", unfollowed := true, recurses := true, apart := false, narrowed := true }
def FnExactRepairAllUptoSaid : Prop := fnExactRepairAllUptoRow.holds Try.pinned (OpenSpec.upto fnExactRepairAllSpec)

/-- 'laws.FnSessions', WHERE WHAT IT READS IS OF BULK AT MOST 1048576: true; the input reads as it did. -/
def fnSessionsUptoRow : OpenClaim := { program := "ythebgoognabinaa", sum := "39bdac4f5a225c0b736e1ff794a2344ec53577032b63758c4b47d9bf7a0db284", func := "loop.example/g00954/laws.FnSessions", spec := "fnSessions", unfollowed := true, recurses := true, apart := false, narrowed := true }
def FnSessionsUptoSaid : Prop := fnSessionsUptoRow.holds Try.pinned (OpenSpec.upto fnSessionsSpec)

/-- 'laws.FnFrames', WHERE WHAT IT READS IS OF BULK AT MOST 1048576: true; the input reads as it did. -/
def fnFramesUptoRow : OpenClaim := { program := "ythebgoognabinaa", sum := "39bdac4f5a225c0b736e1ff794a2344ec53577032b63758c4b47d9bf7a0db284", func := "loop.example/g00954/laws.FnFrames", spec := "fnFrames", apart := false, narrowed := true }
def FnFramesUptoSaid : Prop := fnFramesUptoRow.holds Try.pinned (OpenSpec.upto fnFramesSpec)

/-- 'laws.FnLog', WHERE WHAT IT READS IS OF BULK AT MOST 1048576: true; the input reads as it did. -/
def fnLogUptoRow : OpenClaim := { program := "ythebgoognabinaa", sum := "39bdac4f5a225c0b736e1ff794a2344ec53577032b63758c4b47d9bf7a0db284", func := "loop.example/g00954/laws.FnLog", spec := "fnLog", apart := false, narrowed := true }
def FnLogUptoSaid : Prop := fnLogUptoRow.holds Try.pinned (OpenSpec.upto fnLogSpec)

/-- 'laws.FnRetry', WHERE WHAT IT READS IS OF BULK AT MOST 1048576: true; the input reads as it did. -/
def fnRetryUptoRow : OpenClaim := { program := "ythebgoognabinaa", sum := "39bdac4f5a225c0b736e1ff794a2344ec53577032b63758c4b47d9bf7a0db284", func := "loop.example/g00954/laws.FnRetry", spec := "fnRetry", apart := false, narrowed := true }
def FnRetryUptoSaid : Prop := fnRetryUptoRow.holds Try.pinned (OpenSpec.upto fnRetrySpec)

/-- 'laws.FnExactSafe', WHERE WHAT IT READS IS OF BULK AT MOST 1048576: true; the input reads as it did. -/
def fnExactSafeUptoRow : OpenClaim := { program := "ythebgoognabinaa", sum := "39bdac4f5a225c0b736e1ff794a2344ec53577032b63758c4b47d9bf7a0db284", func := "loop.example/g00954/laws.FnExactSafe", spec := "fnExactSafe", unfollowed := true, recurses := true, apart := false, narrowed := true }
def FnExactSafeUptoSaid : Prop := fnExactSafeUptoRow.holds Try.pinned (OpenSpec.upto fnExactSafeSpec)

/-- 'laws.FnExactLost', WHERE WHAT IT READS IS OF BULK AT MOST 1048576: true; the input reads as it did. -/
def fnExactLostUptoRow : OpenClaim := { program := "ythebgoognabinaa", sum := "39bdac4f5a225c0b736e1ff794a2344ec53577032b63758c4b47d9bf7a0db284", func := "loop.example/g00954/laws.FnExactLost", spec := "fnExactLost", unfollowed := true, recurses := true, apart := false, narrowed := true }
def FnExactLostUptoSaid : Prop := fnExactLostUptoRow.holds Try.pinned (OpenSpec.upto fnExactLostSpec)

/-- 'laws.FnExactENodeFall', WHERE WHAT IT READS IS OF BULK AT MOST 1048576: true; the input reads as it did. -/
def fnExactENodeFallUptoRow : OpenClaim := { program := "ythebgoognabinaa", sum := "39bdac4f5a225c0b736e1ff794a2344ec53577032b63758c4b47d9bf7a0db284", func := "loop.example/g00954/laws.FnExactENodeFall", spec := "fnExactENodeFall", unfollowed := true, recurses := true, apart := false, narrowed := true }
def FnExactENodeFallUptoSaid : Prop := fnExactENodeFallUptoRow.holds Try.pinned (OpenSpec.upto fnExactENodeFallSpec)

/-- 'laws.FnUploads', WHERE WHAT IT READS IS OF BULK AT MOST 1048576: true; the input reads as it did. -/
def fnUploadsUptoRow : OpenClaim := { program := "ythebgoognabinaa", sum := "39bdac4f5a225c0b736e1ff794a2344ec53577032b63758c4b47d9bf7a0db284", func := "loop.example/g00954/laws.FnUploads", spec := "fnUploads", inPlace := ["slices.overlaps[loop.example/g00954/impl.Up]"], unfollowed := true, recurses := true, apart := false, narrowed := true }
def FnUploadsUptoSaid : Prop := fnUploadsUptoRow.holds Try.pinned (OpenSpec.upto fnUploadsSpec)

end Rows
end Go.Proofs.Ythebgoognabinaa
