/-
  No cell of these rows narrows 'for every input' (looked for: loops, veiled, ifaces, maps, wideKeys, modest, calm, conditions, laid).
  DERIVED. THE GIVEN ROWS OF THIS SEAT. 6 by the template 'for every input the law returns true; each argument reads behind the call as it read before'; 0 by the template 'total and deterministic' (their statements: YtimkhmokohidlaaTotals.lean).
  GIVEN WITH THE SEED: the statements are not yours to turn. If you find one false, say at which input.
  Laid BY PROGRAM, IN A SANDBOX (cutbox-rows.mjs): the forced cells as the released guide's own fill.sh prints them over the translation c577c92f553edd17… (all of the seat's roots in one cut). By AI agents, Wed Nov 11 2026. No macro, syntax, notation, axiom, sorry.
-/
import Derived.Test.YtimkhmokohidlaaChecked
import GoSem.Claim
import GoSem.ClaimJoined
import GoSem.ClaimMapViews
import Derived.JoinedTies
import Derived.KernelRfl
namespace Go.Proofs.Ytimkhmokohidlaa
/- THE CELL 'sum', in the pinned program and in every row, IS THE sha256 OF THE DUMP (.gsa) THAT YtimkhmokohidlaaProg.lean LOADS. Nothing in Lean hashes anything: it is a label: what it is worth is what the hold of that sum in a sandbox is worth. -/
noncomputable def Try.pinned : Pinned := { name := "ytimkhmokohidlaa", sum := "c577c92f553edd173b993d346b1c60b6b10a50dd2a9eae9d712923cfb41be8f7", checked := Try.checked }
namespace Rows
def none {H : Type} : Left H := { results := [], args := [] }

/-- 'laws.FnFrames': WHATEVER THE INPUT: true; the input reads as it did. -/
def fnFramesSpec : ChangeSpec := { name := "fnFrames", fn := fun _ => fun
  | [d] => { results := [.lit (.bool true)], args := [d] }
  | _ => none }
def fnFramesRow : OpenClaim := { program := "ytimkhmokohidlaa", sum := "c577c92f553edd173b993d346b1c60b6b10a50dd2a9eae9d712923cfb41be8f7", func := "loop.example/g00954/laws.FnFrames", spec := "fnFrames", apart := false }
def FnFramesSaid : Prop := fnFramesRow.holds Try.pinned (OpenSpec.ofChange fnFramesSpec)

/-- ITS FALSE NEIGHBOUR: 'it returns false'. Refute it at one input. -/
def fnFramesWrong : ChangeSpec := { name := "fnFrames", fn := fun _ => fun
  | [d] => { results := [.lit (.bool false)], args := [d] }
  | _ => none }
def FnFramesWrongFalsely : Prop := fnFramesRow.holds Try.pinned (OpenSpec.ofChange fnFramesWrong)

/-- 'laws.FnSessions': WHATEVER THE INPUT: true; the input reads as it did. -/
def fnSessionsSpec : ChangeSpec := { name := "fnSessions", fn := fun _ => fun
  | [d] => { results := [.lit (.bool true)], args := [d] }
  | _ => none }
def fnSessionsRow : OpenClaim := { program := "ytimkhmokohidlaa", sum := "c577c92f553edd173b993d346b1c60b6b10a50dd2a9eae9d712923cfb41be8f7", func := "loop.example/g00954/laws.FnSessions", spec := "fnSessions", unfollowed := true, recurses := true, apart := false }
def FnSessionsSaid : Prop := fnSessionsRow.holds Try.pinned (OpenSpec.ofChange fnSessionsSpec)

/-- ITS FALSE NEIGHBOUR: 'it returns false'. Refute it at one input. -/
def fnSessionsWrong : ChangeSpec := { name := "fnSessions", fn := fun _ => fun
  | [d] => { results := [.lit (.bool false)], args := [d] }
  | _ => none }
def FnSessionsWrongFalsely : Prop := fnSessionsRow.holds Try.pinned (OpenSpec.ofChange fnSessionsWrong)

/-- 'laws.FnLog': WHATEVER THE INPUT: true; the input reads as it did. -/
def fnLogSpec : ChangeSpec := { name := "fnLog", fn := fun _ => fun
  | [d] => { results := [.lit (.bool true)], args := [d] }
  | _ => none }
def fnLogRow : OpenClaim := { program := "ytimkhmokohidlaa", sum := "c577c92f553edd173b993d346b1c60b6b10a50dd2a9eae9d712923cfb41be8f7", func := "loop.example/g00954/laws.FnLog", spec := "fnLog", apart := false }
def FnLogSaid : Prop := fnLogRow.holds Try.pinned (OpenSpec.ofChange fnLogSpec)

/-- ITS FALSE NEIGHBOUR: 'it returns false'. Refute it at one input. -/
def fnLogWrong : ChangeSpec := { name := "fnLog", fn := fun _ => fun
  | [d] => { results := [.lit (.bool false)], args := [d] }
  | _ => none }
def FnLogWrongFalsely : Prop := fnLogRow.holds Try.pinned (OpenSpec.ofChange fnLogWrong)

/-- 'laws.FnRetry': WHATEVER THE INPUT: true; the input reads as it did. -/
def fnRetrySpec : ChangeSpec := { name := "fnRetry", fn := fun _ => fun
  | [d] => { results := [.lit (.bool true)], args := [d] }
  | _ => none }
def fnRetryRow : OpenClaim := { program := "ytimkhmokohidlaa", sum := "c577c92f553edd173b993d346b1c60b6b10a50dd2a9eae9d712923cfb41be8f7", func := "loop.example/g00954/laws.FnRetry", spec := "fnRetry", apart := false }
def FnRetrySaid : Prop := fnRetryRow.holds Try.pinned (OpenSpec.ofChange fnRetrySpec)

/-- ITS FALSE NEIGHBOUR: 'it returns false'. Refute it at one input. -/
def fnRetryWrong : ChangeSpec := { name := "fnRetry", fn := fun _ => fun
  | [d] => { results := [.lit (.bool false)], args := [d] }
  | _ => none }
def FnRetryWrongFalsely : Prop := fnRetryRow.holds Try.pinned (OpenSpec.ofChange fnRetryWrong)

/-- 'laws.FnUploads': WHATEVER THE INPUT: true; the input reads as it did. -/
def fnUploadsSpec : ChangeSpec := { name := "fnUploads", fn := fun _ => fun
  | [d] => { results := [.lit (.bool true)], args := [d] }
  | _ => none }
def fnUploadsRow : OpenClaim := { program := "ytimkhmokohidlaa", sum := "c577c92f553edd173b993d346b1c60b6b10a50dd2a9eae9d712923cfb41be8f7", func := "loop.example/g00954/laws.FnUploads", spec := "fnUploads", inPlace := ["slices.overlaps[loop.example/g00954/impl.Up]"], unfollowed := true, recurses := true, apart := false }
def FnUploadsSaid : Prop := fnUploadsRow.holds Try.pinned (OpenSpec.ofChange fnUploadsSpec)

/-- ITS FALSE NEIGHBOUR: 'it returns false'. Refute it at one input. -/
def fnUploadsWrong : ChangeSpec := { name := "fnUploads", fn := fun _ => fun
  | [d] => { results := [.lit (.bool false)], args := [d] }
  | _ => none }
def FnUploadsWrongFalsely : Prop := fnUploadsRow.holds Try.pinned (OpenSpec.ofChange fnUploadsWrong)

/-- 'laws.FnExactUpAck': WHATEVER THE INPUT: true; the input reads as it did. -/
def fnExactUpAckSpec : ChangeSpec := { name := "fnExactUpAck", fn := fun _ => fun
  | [d1, d2, d3] => { results := [.lit (.bool true)], args := [d1, d2, d3] }
  | _ => none }
def fnExactUpAckRow : OpenClaim := { program := "ytimkhmokohidlaa", sum := "c577c92f553edd173b993d346b1c60b6b10a50dd2a9eae9d712923cfb41be8f7", func := "loop.example/g00954/laws.FnExactUpAck", spec := "fnExactUpAck", inPlace := ["slices.overlaps[loop.example/g00954/impl.Up]"], unfollowed := true, recurses := true, apart := false }
def FnExactUpAckSaid : Prop := fnExactUpAckRow.holds Try.pinned (OpenSpec.ofChange fnExactUpAckSpec)

/-- ITS FALSE NEIGHBOUR: 'it returns false'. Refute it at one input. -/
def fnExactUpAckWrong : ChangeSpec := { name := "fnExactUpAck", fn := fun _ => fun
  | [d1, d2, d3] => { results := [.lit (.bool false)], args := [d1, d2, d3] }
  | _ => none }
def FnExactUpAckWrongFalsely : Prop := fnExactUpAckRow.holds Try.pinned (OpenSpec.ofChange fnExactUpAckWrong)

/- THE SECOND FORM. 'bulk': how many values and letters a reading holds, each counted each time it is reached (what is shared counts as often as it is met; a slice's spare places count too). A statement '..UptoSaid' is the law's where the arguments, and the package variables that the reading takes, are together of bulk at most 1048576: NARROWER than '..Said'. Prove '..Said' where nothing that the law and all that it calls make is longer than what came in: it says more and counts as full. Else prove '..UptoSaid'. A law counts once. -/
mutual
def uptoBulk {H : Type} : DataW H → Nat
  | .lit (.string bytes) => bytes.length + 1
  | .lit _ => 1
  | .nil => 1
  | .ptr d => uptoBulk d + 1
  | .slice elems spare => uptoBulkAll elems + uptoBulkAll spare + 1
  | .agg parts => uptoBulkAll parts + 1
  | .iface _ d => uptoBulk d + 1
  | .map entries => uptoBulkEntries entries + 1
  | .held _ => 1
def uptoBulkAll {H : Type} : List (DataW H) → Nat
  | [] => 0
  | d :: r => uptoBulk d + uptoBulkAll r
def uptoBulkEntries {H : Type} : List (Lit × DataW H) → Nat
  | [] => 0
  | x :: r => uptoBulkEntry x + uptoBulkEntries r
def uptoBulkEntry {H : Type} : Lit × DataW H → Nat
  | (.string bytes, d) => bytes.length + uptoBulk d + 1
  | (_, d) => uptoBulk d + 1
 end
def uptoSmall : (H : Type) → List (DataW H) → Bool := fun _ ds => decide (uptoBulkAll ds ≤ 1048576)
def OpenSpec.upto (s : _root_.Go.ChangeSpec) : _root_.Go.OpenSpec := { _root_.Go.OpenSpec.ofChange s with cond := some uptoSmall }

/-- 'laws.FnFrames', WHERE WHAT IT READS IS OF BULK AT MOST 1048576: true; the input reads as it did. -/
def fnFramesUptoRow : OpenClaim := { program := "ytimkhmokohidlaa", sum := "c577c92f553edd173b993d346b1c60b6b10a50dd2a9eae9d712923cfb41be8f7", func := "loop.example/g00954/laws.FnFrames", spec := "fnFrames", apart := false, narrowed := true }
def FnFramesUptoSaid : Prop := fnFramesUptoRow.holds Try.pinned (OpenSpec.upto fnFramesSpec)

/-- 'laws.FnSessions', WHERE WHAT IT READS IS OF BULK AT MOST 1048576: true; the input reads as it did. -/
def fnSessionsUptoRow : OpenClaim := { program := "ytimkhmokohidlaa", sum := "c577c92f553edd173b993d346b1c60b6b10a50dd2a9eae9d712923cfb41be8f7", func := "loop.example/g00954/laws.FnSessions", spec := "fnSessions", unfollowed := true, recurses := true, apart := false, narrowed := true }
def FnSessionsUptoSaid : Prop := fnSessionsUptoRow.holds Try.pinned (OpenSpec.upto fnSessionsSpec)

/-- 'laws.FnLog', WHERE WHAT IT READS IS OF BULK AT MOST 1048576: true; the input reads as it did. -/
def fnLogUptoRow : OpenClaim := { program := "ytimkhmokohidlaa", sum := "c577c92f553edd173b993d346b1c60b6b10a50dd2a9eae9d712923cfb41be8f7", func := "loop.example/g00954/laws.FnLog", spec := "fnLog", apart := false, narrowed := true }
def FnLogUptoSaid : Prop := fnLogUptoRow.holds Try.pinned (OpenSpec.upto fnLogSpec)

/-- 'laws.FnRetry', WHERE WHAT IT READS IS OF BULK AT MOST 1048576: true; the input reads as it did. -/
def fnRetryUptoRow : OpenClaim := { program := "ytimkhmokohidlaa", sum := "c577c92f553edd173b993d346b1c60b6b10a50dd2a9eae9d712923cfb41be8f7", func := "loop.example/g00954/laws.FnRetry", spec := "fnRetry", apart := false, narrowed := true }
def FnRetryUptoSaid : Prop := fnRetryUptoRow.holds Try.pinned (OpenSpec.upto fnRetrySpec)

/-- 'laws.FnUploads', WHERE WHAT IT READS IS OF BULK AT MOST 1048576: true; the input reads as it did. -/
def fnUploadsUptoRow : OpenClaim := { program := "ytimkhmokohidlaa", sum := "c577c92f553edd173b993d346b1c60b6b10a50dd2a9eae9d712923cfb41be8f7", func := "loop.example/g00954/laws.FnUploads", spec := "fnUploads", inPlace := ["slices.overlaps[loop.example/g00954/impl.Up]"], unfollowed := true, recurses := true, apart := false, narrowed := true }
def FnUploadsUptoSaid : Prop := fnUploadsUptoRow.holds Try.pinned (OpenSpec.upto fnUploadsSpec)

/-- 'laws.FnExactUpAck', WHERE WHAT IT READS IS OF BULK AT MOST 1048576: true; the input reads as it did. -/
def fnExactUpAckUptoRow : OpenClaim := { program := "ytimkhmokohidlaa", sum := "c577c92f553edd173b993d346b1c60b6b10a50dd2a9eae9d712923cfb41be8f7", func := "loop.example/g00954/laws.FnExactUpAck", spec := "fnExactUpAck", inPlace := ["slices.overlaps[loop.example/g00954/impl.Up]"], unfollowed := true, recurses := true, apart := false, narrowed := true }
def FnExactUpAckUptoSaid : Prop := fnExactUpAckUptoRow.holds Try.pinned (OpenSpec.upto fnExactUpAckSpec)

end Rows
end Go.Proofs.Ytimkhmokohidlaa
