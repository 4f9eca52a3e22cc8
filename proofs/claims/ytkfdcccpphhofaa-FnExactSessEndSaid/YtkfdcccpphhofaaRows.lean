/-
  No cell of these rows narrows 'for every input' (looked for: loops, veiled, ifaces, maps, wideKeys, modest, calm, conditions, laid).
  DERIVED. THE GIVEN ROWS OF THIS SEAT. 10 by the template 'for every input the law returns true; each argument reads behind the call as it read before'; 0 by the template 'total and deterministic' (their statements: YtkfdcccpphhofaaTotals.lean).
  GIVEN WITH THE SEED: the statements are not yours to turn. If you find one false, say at which input.
  Laid BY PROGRAM, IN A SANDBOX (cutbox-rows.mjs): the forced cells as the released guide's own fill.sh prints them over the translation 0206ff1cf37a1dc3… (all of the seat's roots in one cut). By AI agents, Wed Nov 11 2026. No macro, syntax, notation, axiom, sorry.
-/
import Derived.Test.YtkfdcccpphhofaaChecked
import GoSem.Claim
import GoSem.ClaimJoined
import GoSem.ClaimMapViews
import Derived.JoinedTies
import Derived.KernelRfl
namespace Go.Proofs.Ytkfdcccpphhofaa
/- THE CELL 'sum', in the pinned program and in every row, IS THE sha256 OF THE DUMP (.gsa) THAT YtkfdcccpphhofaaProg.lean LOADS. Nothing in Lean hashes anything: it is a label: what it is worth is what the hold of that sum in a sandbox is worth. -/
noncomputable def Try.pinned : Pinned := { name := "ytkfdcccpphhofaa", sum := "0206ff1cf37a1dc3a308b81a8caebd0f8ba3d8474d1437dcbfd0c044fd2eb6cb", checked := Try.checked }
namespace Rows
def none {H : Type} : Left H := { results := [], args := [] }

/-- 'laws.FnExactSessPut': WHATEVER THE INPUT: true; the input reads as it did. -/
def fnExactSessPutSpec : ChangeSpec := { name := "fnExactSessPut", fn := fun _ => fun
  | [d1, d2, d3] => { results := [.lit (.bool true)], args := [d1, d2, d3] }
  | _ => none }
def fnExactSessPutRow : OpenClaim := { program := "ytkfdcccpphhofaa", sum := "0206ff1cf37a1dc3a308b81a8caebd0f8ba3d8474d1437dcbfd0c044fd2eb6cb", func := "loop.example/g00954/laws.FnExactSessPut", spec := "fnExactSessPut", unfollowed := true, recurses := true, apart := false }
def FnExactSessPutSaid : Prop := fnExactSessPutRow.holds Try.pinned (OpenSpec.ofChange fnExactSessPutSpec)

/-- ITS FALSE NEIGHBOUR: 'it returns false'. Refute it at one input. -/
def fnExactSessPutWrong : ChangeSpec := { name := "fnExactSessPut", fn := fun _ => fun
  | [d1, d2, d3] => { results := [.lit (.bool false)], args := [d1, d2, d3] }
  | _ => none }
def FnExactSessPutWrongFalsely : Prop := fnExactSessPutRow.holds Try.pinned (OpenSpec.ofChange fnExactSessPutWrong)

/-- 'laws.FnFrames': WHATEVER THE INPUT: true; the input reads as it did. -/
def fnFramesSpec : ChangeSpec := { name := "fnFrames", fn := fun _ => fun
  | [d] => { results := [.lit (.bool true)], args := [d] }
  | _ => none }
def fnFramesRow : OpenClaim := { program := "ytkfdcccpphhofaa", sum := "0206ff1cf37a1dc3a308b81a8caebd0f8ba3d8474d1437dcbfd0c044fd2eb6cb", func := "loop.example/g00954/laws.FnFrames", spec := "fnFrames", apart := false }
def FnFramesSaid : Prop := fnFramesRow.holds Try.pinned (OpenSpec.ofChange fnFramesSpec)

/-- ITS FALSE NEIGHBOUR: 'it returns false'. Refute it at one input. -/
def fnFramesWrong : ChangeSpec := { name := "fnFrames", fn := fun _ => fun
  | [d] => { results := [.lit (.bool false)], args := [d] }
  | _ => none }
def FnFramesWrongFalsely : Prop := fnFramesRow.holds Try.pinned (OpenSpec.ofChange fnFramesWrong)

/-- 'laws.FnExactSessTick': WHATEVER THE INPUT: true; the input reads as it did. -/
def fnExactSessTickSpec : ChangeSpec := { name := "fnExactSessTick", fn := fun _ => fun
  | [d1, d2] => { results := [.lit (.bool true)], args := [d1, d2] }
  | _ => none }
def fnExactSessTickRow : OpenClaim := { program := "ytkfdcccpphhofaa", sum := "0206ff1cf37a1dc3a308b81a8caebd0f8ba3d8474d1437dcbfd0c044fd2eb6cb", func := "loop.example/g00954/laws.FnExactSessTick", spec := "fnExactSessTick", apart := false }
def FnExactSessTickSaid : Prop := fnExactSessTickRow.holds Try.pinned (OpenSpec.ofChange fnExactSessTickSpec)

/-- ITS FALSE NEIGHBOUR: 'it returns false'. Refute it at one input. -/
def fnExactSessTickWrong : ChangeSpec := { name := "fnExactSessTick", fn := fun _ => fun
  | [d1, d2] => { results := [.lit (.bool false)], args := [d1, d2] }
  | _ => none }
def FnExactSessTickWrongFalsely : Prop := fnExactSessTickRow.holds Try.pinned (OpenSpec.ofChange fnExactSessTickWrong)

/-- 'laws.FnExactSessEnd': WHATEVER THE INPUT: true; the input reads as it did. -/
def fnExactSessEndSpec : ChangeSpec := { name := "fnExactSessEnd", fn := fun _ => fun
  | [d1, d2] => { results := [.lit (.bool true)], args := [d1, d2] }
  | _ => none }
def fnExactSessEndRow : OpenClaim := { program := "ytkfdcccpphhofaa", sum := "0206ff1cf37a1dc3a308b81a8caebd0f8ba3d8474d1437dcbfd0c044fd2eb6cb", func := "loop.example/g00954/laws.FnExactSessEnd", spec := "fnExactSessEnd", unfollowed := true, recurses := true, apart := false }
def FnExactSessEndSaid : Prop := fnExactSessEndRow.holds Try.pinned (OpenSpec.ofChange fnExactSessEndSpec)

/-- ITS FALSE NEIGHBOUR: 'it returns false'. Refute it at one input. -/
def fnExactSessEndWrong : ChangeSpec := { name := "fnExactSessEnd", fn := fun _ => fun
  | [d1, d2] => { results := [.lit (.bool false)], args := [d1, d2] }
  | _ => none }
def FnExactSessEndWrongFalsely : Prop := fnExactSessEndRow.holds Try.pinned (OpenSpec.ofChange fnExactSessEndWrong)

/-- 'laws.FnSessions': WHATEVER THE INPUT: true; the input reads as it did. -/
def fnSessionsSpec : ChangeSpec := { name := "fnSessions", fn := fun _ => fun
  | [d] => { results := [.lit (.bool true)], args := [d] }
  | _ => none }
def fnSessionsRow : OpenClaim := { program := "ytkfdcccpphhofaa", sum := "0206ff1cf37a1dc3a308b81a8caebd0f8ba3d8474d1437dcbfd0c044fd2eb6cb", func := "loop.example/g00954/laws.FnSessions", spec := "fnSessions", unfollowed := true, recurses := true, apart := false }
def FnSessionsSaid : Prop := fnSessionsRow.holds Try.pinned (OpenSpec.ofChange fnSessionsSpec)

/-- ITS FALSE NEIGHBOUR: 'it returns false'. Refute it at one input. -/
def fnSessionsWrong : ChangeSpec := { name := "fnSessions", fn := fun _ => fun
  | [d] => { results := [.lit (.bool false)], args := [d] }
  | _ => none }
def FnSessionsWrongFalsely : Prop := fnSessionsRow.holds Try.pinned (OpenSpec.ofChange fnSessionsWrong)

/-- 'laws.FnExactUpLost': WHATEVER THE INPUT: true; the input reads as it did. -/
def fnExactUpLostSpec : ChangeSpec := { name := "fnExactUpLost", fn := fun _ => fun
  | [d1, d2, d3] => { results := [.lit (.bool true)], args := [d1, d2, d3] }
  | _ => none }
def fnExactUpLostRow : OpenClaim := { program := "ytkfdcccpphhofaa", sum := "0206ff1cf37a1dc3a308b81a8caebd0f8ba3d8474d1437dcbfd0c044fd2eb6cb", func := "loop.example/g00954/laws.FnExactUpLost", spec := "fnExactUpLost", unfollowed := true, recurses := true, apart := false }
def FnExactUpLostSaid : Prop := fnExactUpLostRow.holds Try.pinned (OpenSpec.ofChange fnExactUpLostSpec)

/-- ITS FALSE NEIGHBOUR: 'it returns false'. Refute it at one input. -/
def fnExactUpLostWrong : ChangeSpec := { name := "fnExactUpLost", fn := fun _ => fun
  | [d1, d2, d3] => { results := [.lit (.bool false)], args := [d1, d2, d3] }
  | _ => none }
def FnExactUpLostWrongFalsely : Prop := fnExactUpLostRow.holds Try.pinned (OpenSpec.ofChange fnExactUpLostWrong)

/-- 'laws.FnExactUpGate': WHATEVER THE INPUT: true; the input reads as it did. -/
def fnExactUpGateSpec : ChangeSpec := { name := "fnExactUpGate", fn := fun _ => fun
  | [d1, d2] => { results := [.lit (.bool true)], args := [d1, d2] }
  | _ => none }
def fnExactUpGateRow : OpenClaim := { program := "ytkfdcccpphhofaa", sum := "0206ff1cf37a1dc3a308b81a8caebd0f8ba3d8474d1437dcbfd0c044fd2eb6cb", func := "loop.example/g00954/laws.FnExactUpGate", spec := "fnExactUpGate", unfollowed := true, recurses := true, apart := false }
def FnExactUpGateSaid : Prop := fnExactUpGateRow.holds Try.pinned (OpenSpec.ofChange fnExactUpGateSpec)

/-- ITS FALSE NEIGHBOUR: 'it returns false'. Refute it at one input. -/
def fnExactUpGateWrong : ChangeSpec := { name := "fnExactUpGate", fn := fun _ => fun
  | [d1, d2] => { results := [.lit (.bool false)], args := [d1, d2] }
  | _ => none }
def FnExactUpGateWrongFalsely : Prop := fnExactUpGateRow.holds Try.pinned (OpenSpec.ofChange fnExactUpGateWrong)

/-- 'laws.FnLog': WHATEVER THE INPUT: true; the input reads as it did. -/
def fnLogSpec : ChangeSpec := { name := "fnLog", fn := fun _ => fun
  | [d] => { results := [.lit (.bool true)], args := [d] }
  | _ => none }
def fnLogRow : OpenClaim := { program := "ytkfdcccpphhofaa", sum := "0206ff1cf37a1dc3a308b81a8caebd0f8ba3d8474d1437dcbfd0c044fd2eb6cb", func := "loop.example/g00954/laws.FnLog", spec := "fnLog", apart := false }
def FnLogSaid : Prop := fnLogRow.holds Try.pinned (OpenSpec.ofChange fnLogSpec)

/-- ITS FALSE NEIGHBOUR: 'it returns false'. Refute it at one input. -/
def fnLogWrong : ChangeSpec := { name := "fnLog", fn := fun _ => fun
  | [d] => { results := [.lit (.bool false)], args := [d] }
  | _ => none }
def FnLogWrongFalsely : Prop := fnLogRow.holds Try.pinned (OpenSpec.ofChange fnLogWrong)

/-- 'laws.FnExactRepairAll': WHATEVER THE INPUT: true; the input reads as it did. -/
def fnExactRepairAllSpec : ChangeSpec := { name := "fnExactRepairAll", fn := fun _ => fun
  | [d1, d2] => { results := [.lit (.bool true)], args := [d1, d2] }
  | _ => none }
def fnExactRepairAllRow : OpenClaim := { program := "ytkfdcccpphhofaa", sum := "0206ff1cf37a1dc3a308b81a8caebd0f8ba3d8474d1437dcbfd0c044fd2eb6cb", func := "loop.example/g00954/laws.FnExactRepairAll", spec := "fnExactRepairAll", unfollowed := true, recurses := true, apart := false }
def FnExactRepairAllSaid : Prop := fnExactRepairAllRow.holds Try.pinned (OpenSpec.ofChange fnExactRepairAllSpec)

/-- ITS FALSE NEIGHBOUR: 'it returns false'. Refute it at one input. -/
def fnExactRepairAllWrong : ChangeSpec := { name := "fnExactRepairAll", fn := fun _ => fun
  | [d1, d2] => { results := [.lit (.bool false)], args := [d1, d2] }
  | _ => none }
def FnExactRepairAllWrongFalsely : Prop := fnExactRepairAllRow.holds Try.pinned (OpenSpec.ofChange fnExactRepairAllWrong)

/-- 'laws.FnExactUpAck': WHATEVER THE INPUT: true; the input reads as it did. -/
def fnExactUpAckSpec : ChangeSpec := { name := "fnExactUpAck", fn := fun _ => fun
  | [d1, d2, d3] => { results := [.lit (.bool true)], args := [d1, d2, d3] }
  | _ => none }
def fnExactUpAckRow : OpenClaim := { program := "ytkfdcccpphhofaa", sum := "0206ff1cf37a1dc3a308b81a8caebd0f8ba3d8474d1437dcbfd0c044fd2eb6cb", func := "loop.example/g00954/laws.FnExactUpAck", spec := "fnExactUpAck", inPlace := ["slices.overlaps[loop.example/g00954/impl.Up]"], unfollowed := true, recurses := true, apart := false }
def FnExactUpAckSaid : Prop := fnExactUpAckRow.holds Try.pinned (OpenSpec.ofChange fnExactUpAckSpec)

/-- ITS FALSE NEIGHBOUR: 'it returns false'. Refute it at one input. -/
def fnExactUpAckWrong : ChangeSpec := { name := "fnExactUpAck", fn := fun _ => fun
  | [d1, d2, d3] => { results := [.lit (.bool false)], args := [d1, d2, d3] }
  | _ => none }
def FnExactUpAckWrongFalsely : Prop := fnExactUpAckRow.holds Try.pinned (OpenSpec.ofChange fnExactUpAckWrong)

/- THE SECOND FORM. 'bulk': how many values and letters a reading holds, each counted each time it is reached (what is shared counts as often as it is met; a slice's spare places count too). A statement '..UptoSaid' is the law's where the arguments, and the package variables that the reading takes, are together of bulk at most 1048576: NARROWER than '..Said'. Prove '..Said' where nothing that the law and all that it calls make is longer than what came in: it says more and counts as full. Else prove '..UptoSaid'. A law counts once. -/
mutual
def uptoBulk {H : Type} : DataW H → Nat
  | .lit (.string bytes) => bytes.length + 1
  | .lit _ => 1
  | .nil => 1
  | .ptr d => uptoBulk d + 1
  | .slice elems spare => uptoBulkAll elems + uptoBulkAll spare + 1
  | .agg parts => uptoBulkAll parts + 1
  | .iface _ d => uptoBulk d + 1
  | .map entries => uptoBulkEntries entries + 1
  | .held _ => 1
def uptoBulkAll {H : Type} : List (DataW H) → Nat
  | [] => 0
  | d :: r => uptoBulk d + uptoBulkAll r
def uptoBulkEntries {H : Type} : List (Lit × DataW H) → Nat
  | [] => 0
  | x :: r => uptoBulkEntry x + uptoBulkEntries r
def uptoBulkEntry {H : Type} : Lit × DataW H → Nat
  | (.string bytes, d) => bytes.length + uptoBulk d + 1
  | (_, d) => uptoBulk d + 1
 end
def uptoSmall : (H : Type) → List (DataW H) → Bool := fun _ ds => decide (uptoBulkAll ds ≤ 1048576)
def OpenSpec.upto (s : _root_.Go.ChangeSpec) : _root_.Go.OpenSpec := { _root_.Go.OpenSpec.ofChange s with cond := some uptoSmall }

/-- 'laws.FnExactSessPut', WHERE WHAT IT READS IS OF BULK AT MOST 1048576: true; the input reads as it did. -/
def fnExactSessPutUptoRow : OpenClaim := { program := "ytkfdcccpphhofaa", sum := "0206ff1cf37a1dc3a308b81a8caebd0f8ba3d8474d1437dcbfd0c044fd2eb6cb", func := "loop.example/g00954/laws.FnExactSessPut", spec := "fnExactSessPut", unfollowed := true, recurses := true, apart := false, narrowed := true }
def FnExactSessPutUptoSaid : Prop := fnExactSessPutUptoRow.holds Try.pinned (OpenSpec.upto fnExactSessPutSpec)

/-- 'laws.FnFrames', WHERE WHAT IT READS IS OF BULK AT MOST 1048576: true; the input reads as it did. -/
def fnFramesUptoRow : OpenClaim := { program := "ytkfdcccpphhofaa", sum := "0206ff1cf37a1dc3a308b81a8caebd0f8ba3d8474d1437dcbfd0c044fd2eb6cb", func := "loop.example/g00954/laws.FnFrames", spec := "fnFrames", apart := false, narrowed := true }
def FnFramesUptoSaid : Prop := fnFramesUptoRow.holds Try.pinned (OpenSpec.upto fnFramesSpec)

/-- 'laws.FnExactSessTick', WHERE WHAT IT READS IS OF BULK AT MOST 1048576: true; the input reads as it did. -/
def fnExactSessTickUptoRow : OpenClaim := { program := "ytkfdcccpphhofaa", sum := "0206ff1cf37a1dc3a308b81a8caebd0f8ba3d8474d1437dcbfd0c044fd2eb6cb", func := "loop.example/g00954/laws.FnExactSessTick", spec := "fnExactSessTick", apart := false, narrowed := true }
def FnExactSessTickUptoSaid : Prop := fnExactSessTickUptoRow.holds Try.pinned (OpenSpec.upto fnExactSessTickSpec)

/-- 'laws.FnExactSessEnd', WHERE WHAT IT READS IS OF BULK AT MOST 1048576: true; the input reads as it did. -/
def fnExactSessEndUptoRow : OpenClaim := { program := "ytkfdcccpphhofaa", sum := "0206ff1cf37a1dc3a308b81a8caebd0f8ba3d8474d1437dcbfd0c044fd2eb6cb", func := "loop.example/g00954/laws.FnExactSessEnd", spec := "fnExactSessEnd", unfollowed := true, recurses := true, apart := false, narrowed := true }
def FnExactSessEndUptoSaid : Prop := fnExactSessEndUptoRow.holds Try.pinned (OpenSpec.upto fnExactSessEndSpec)

/-- 'laws.FnSessions', WHERE WHAT IT READS IS OF BULK AT MOST 1048576: true; the input reads as it did. -/
def fnSessionsUptoRow : OpenClaim := { program := "ytkfdcccpphhofaa", sum := "0206ff1cf37a1dc3a308b81a8caebd0f8ba3d8474d1437dcbfd0c044fd2eb6cb", func := "loop.example/g00954/laws.FnSessions", spec := "fnSessions", unfollowed := true, recurses := true, apart := false, narrowed := true }
def FnSessionsUptoSaid : Prop := fnSessionsUptoRow.holds Try.pinned (OpenSpec.upto fnSessionsSpec)

/-- 'laws.FnExactUpLost', WHERE WHAT IT READS IS OF BULK AT MOST 1048576: true; the input reads as it did. -/
def fnExactUpLostUptoRow : OpenClaim := { program := "ytkfdcccpphhofaa", sum := "0206ff1cf37a1dc3a308b81a8caebd0f8ba3d8474d1437dcbfd0c044fd2eb6cb", func := "loop.example/g00954/laws.FnExactUpLost", spec := "fnExactUpLost", unfollowed := true, recurses := true, apart := false, narrowed := true }
def FnExactUpLostUptoSaid : Prop := fnExactUpLostUptoRow.holds Try.pinned (OpenSpec.upto fnExactUpLostSpec)

/-- 'laws.FnExactUpGate', WHERE WHAT IT READS IS OF BULK AT MOST 1048576: true; the input reads as it did. -/
def fnExactUpGateUptoRow : OpenClaim := { program := "ytkfdcccpphhofaa", sum := "0206ff1cf37a1dc3a308b81a8caebd0f8ba3d8474d1437dcbfd0c044fd2eb6cb", func := "loop.example/g00954/laws.FnExactUpGate", spec := "fnExactUpGate", unfollowed := true, recurses := true, apart := false, narrowed := true }
def FnExactUpGateUptoSaid : Prop := fnExactUpGateUptoRow.holds Try.pinned (OpenSpec.upto fnExactUpGateSpec)

/-- 'laws.FnLog', WHERE WHAT IT READS IS OF BULK AT MOST 1048576: true; the input reads as it did. -/
def fnLogUptoRow : OpenClaim := { program := "ytkfdcccpphhofaa", sum := "0206ff1cf37a1dc3a308b81a8caebd0f8ba3d8474d1437dcbfd0c044fd2eb6cb", func := "loop.example/g00954/laws.FnLog", spec := "fnLog", apart := false, narrowed := true }
def FnLogUptoSaid : Prop := fnLogUptoRow.holds Try.pinned (OpenSpec.upto fnLogSpec)

/-- 'laws.FnExactRepairAll', WHERE WHAT IT READS IS OF BULK AT MOST 1048576: true; the input reads as it did. -/
def fnExactRepairAllUptoRow : OpenClaim := { program := "ytkfdcccpphhofaa", sum := "0206ff1cf37a1dc3a308b81a8caebd0f8ba3d8474d1437dcbfd0c044fd2eb6cb", func := "loop.example/g00954/laws.FnExactRepairAll", spec := "fnExactRepairAll", unfollowed := true, recurses := true, apart := false, narrowed := true }
def FnExactRepairAllUptoSaid : Prop := fnExactRepairAllUptoRow.holds Try.pinned (OpenSpec.upto fnExactRepairAllSpec)

/-- 'laws.FnExactUpAck', WHERE WHAT IT READS IS OF BULK AT MOST 1048576: true; the input reads as it did. -/
def fnExactUpAckUptoRow : OpenClaim := { program := "ytkfdcccpphhofaa", sum := "0206ff1cf37a1dc3a308b81a8caebd0f8ba3d8474d1437dcbfd0c044fd2eb6cb", func := "loop.example/g00954/laws.FnExactUpAck", spec := "fnExactUpAck", inPlace := ["slices.overlaps[loop.example/g00954/impl.Up]"], unfollowed := true, recurses := true, apart := false, narrowed := true }
def FnExactUpAckUptoSaid : Prop := fnExactUpAckUptoRow.holds Try.pinned (OpenSpec.upto fnExactUpAckSpec)

end Rows
end Go.Proofs.Ytkfdcccpphhofaa
