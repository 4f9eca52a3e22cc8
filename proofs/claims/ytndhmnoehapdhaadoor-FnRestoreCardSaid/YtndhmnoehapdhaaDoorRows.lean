/-
  NARROWER THAN 'FOR EVERY INPUT', by the rows' own cells (each row's printed sentence says how): FnExactBlobGet: laid · FnExactBlobDrop: laid · FnExactBlobBend: laid · FnExactFetch: laid · FnExactBlobPut: laid · FnExactRestore: laid · FnExactWhole: laid · FnBlobs: laid · FnRestore: laid · FnCut: laid.
  DERIVED. THE GIVEN ROWS OF THIS SEAT. 10 by the template 'for every input the law returns true; each argument reads behind the call as it read before'; 0 by the template 'total and deterministic' (their statements: YtndhmnoehapdhaaDoorTotals.lean).
  GIVEN WITH THE SEED: the statements are not yours to turn. If you find one false, say at which input.
  Laid BY PROGRAM, IN A SANDBOX (cutbox-rows.mjs): the forced cells as the released guide's own fill.sh prints them over the translation 31168bf3885a7b84… (all of the seat's roots in one cut). By AI agents, Wed Nov 11 2026. No macro, syntax, notation, axiom, sorry.
-/
import Derived.Test.YtndhmnoehapdhaaDoorChecked
import GoSem.Claim
import GoSem.ClaimJoined
import GoSem.ClaimMapViews
import Derived.JoinedTies
import Derived.KernelRfl
namespace Go.Proofs.YtndhmnoehapdhaaDoor
/- THE CELL 'sum', in the pinned program and in every row, IS THE sha256 OF THE DUMP (.gsa) THAT YtndhmnoehapdhaaDoorProg.lean LOADS. Nothing in Lean hashes anything: it is a label: what it is worth is what the hold of that sum in a sandbox is worth. -/
noncomputable def Tryd.pinned : Pinned := { name := "ytndhmnoehapdhaadoor", sum := "31168bf3885a7b8448cd09e5f495493dfb88344daeade4827ba47234c9adfac6", checked := Tryd.checked }
namespace Rows
def none {H : Type} : Left H := { results := [], args := [] }

/- WHAT THE LISTED PACKAGE-LEVEL VARIABLES READ AS WHEN THE CALL BEGINS. Each datum BY PROGRAM (the guide's laid-datum.mjs) off the statement by which the dump's own 'gosem.cut.vars' lays the variable. In a bare row this is a premise. The card (YtndhmnoehapdhaaDoorCards.lean) ties it to the program's text. -/
def laid_loop_example_g00954_impl_shaWords {H : Type} : DataW H := .agg [.lit (.int .u32 1116352408), .lit (.int .u32 1899447441), .lit (.int .u32 3049323471), .lit (.int .u32 3921009573), .lit (.int .u32 961987163), .lit (.int .u32 1508970993), .lit (.int .u32 2453635748), .lit (.int .u32 2870763221), .lit (.int .u32 3624381080), .lit (.int .u32 310598401), .lit (.int .u32 607225278), .lit (.int .u32 1426881987), .lit (.int .u32 1925078388), .lit (.int .u32 2162078206), .lit (.int .u32 2614888103), .lit (.int .u32 3248222580), .lit (.int .u32 3835390401), .lit (.int .u32 4022224774), .lit (.int .u32 264347078), .lit (.int .u32 604807628), .lit (.int .u32 770255983), .lit (.int .u32 1249150122), .lit (.int .u32 1555081692), .lit (.int .u32 1996064986), .lit (.int .u32 2554220882), .lit (.int .u32 2821834349), .lit (.int .u32 2952996808), .lit (.int .u32 3210313671), .lit (.int .u32 3336571891), .lit (.int .u32 3584528711), .lit (.int .u32 113926993), .lit (.int .u32 338241895), .lit (.int .u32 666307205), .lit (.int .u32 773529912), .lit (.int .u32 1294757372), .lit (.int .u32 1396182291), .lit (.int .u32 1695183700), .lit (.int .u32 1986661051), .lit (.int .u32 2177026350), .lit (.int .u32 2456956037), .lit (.int .u32 2730485921), .lit (.int .u32 2820302411), .lit (.int .u32 3259730800), .lit (.int .u32 3345764771), .lit (.int .u32 3516065817), .lit (.int .u32 3600352804), .lit (.int .u32 4094571909), .lit (.int .u32 275423344), .lit (.int .u32 430227734), .lit (.int .u32 506948616), .lit (.int .u32 659060556), .lit (.int .u32 883997877), .lit (.int .u32 958139571), .lit (.int .u32 1322822218), .lit (.int .u32 1537002063), .lit (.int .u32 1747873779), .lit (.int .u32 1955562222), .lit (.int .u32 2024104815), .lit (.int .u32 2227730452), .lit (.int .u32 2361852424), .lit (.int .u32 2428436474), .lit (.int .u32 2756734187), .lit (.int .u32 3204031479), .lit (.int .u32 3329325298)]

/-- 'laws.FnExactBlobGet': WHATEVER THE INPUT: true; the input reads as it did. -/
def fnExactBlobGetSpec : ChangeSpec := { name := "fnExactBlobGet", vars := ["loop.example/g00954/impl.shaWords"], fn := fun _ => fun
  | [d1, d2, g1] => { results := [.lit (.bool true)], args := [d1, d2], vars := [g1] }
  | _ => none }
def fnExactBlobGetRow : OpenClaim := { program := "ytndhmnoehapdhaadoor", sum := "31168bf3885a7b8448cd09e5f495493dfb88344daeade4827ba47234c9adfac6", func := "loop.example/g00954/laws.FnExactBlobGet", spec := "fnExactBlobGet", unfollowed := true, recurses := true, named := ["loop.example/g00954/impl.shaWords"], apart := false, laid := [("loop.example/g00954/impl.shaWords", laid_loop_example_g00954_impl_shaWords)] }
def FnExactBlobGetSaid : Prop := fnExactBlobGetRow.holds Tryd.pinned (OpenSpec.ofChange fnExactBlobGetSpec)

/-- ITS FALSE NEIGHBOUR: 'it returns false'. Refute it at one input. -/
def fnExactBlobGetWrong : ChangeSpec := { name := "fnExactBlobGet", vars := ["loop.example/g00954/impl.shaWords"], fn := fun _ => fun
  | [d1, d2, g1] => { results := [.lit (.bool false)], args := [d1, d2], vars := [g1] }
  | _ => none }
def FnExactBlobGetWrongFalsely : Prop := fnExactBlobGetRow.holds Tryd.pinned (OpenSpec.ofChange fnExactBlobGetWrong)

/-- 'laws.FnExactBlobDrop': WHATEVER THE INPUT: true; the input reads as it did. -/
def fnExactBlobDropSpec : ChangeSpec := { name := "fnExactBlobDrop", vars := ["loop.example/g00954/impl.shaWords"], fn := fun _ => fun
  | [d1, d2, g1] => { results := [.lit (.bool true)], args := [d1, d2], vars := [g1] }
  | _ => none }
def fnExactBlobDropRow : OpenClaim := { program := "ytndhmnoehapdhaadoor", sum := "31168bf3885a7b8448cd09e5f495493dfb88344daeade4827ba47234c9adfac6", func := "loop.example/g00954/laws.FnExactBlobDrop", spec := "fnExactBlobDrop", unfollowed := true, recurses := true, named := ["loop.example/g00954/impl.shaWords"], apart := false, laid := [("loop.example/g00954/impl.shaWords", laid_loop_example_g00954_impl_shaWords)] }
def FnExactBlobDropSaid : Prop := fnExactBlobDropRow.holds Tryd.pinned (OpenSpec.ofChange fnExactBlobDropSpec)

/-- ITS FALSE NEIGHBOUR: 'it returns false'. Refute it at one input. -/
def fnExactBlobDropWrong : ChangeSpec := { name := "fnExactBlobDrop", vars := ["loop.example/g00954/impl.shaWords"], fn := fun _ => fun
  | [d1, d2, g1] => { results := [.lit (.bool false)], args := [d1, d2], vars := [g1] }
  | _ => none }
def FnExactBlobDropWrongFalsely : Prop := fnExactBlobDropRow.holds Tryd.pinned (OpenSpec.ofChange fnExactBlobDropWrong)

/-- 'laws.FnExactBlobBend': WHATEVER THE INPUT: true; the input reads as it did. -/
def fnExactBlobBendSpec : ChangeSpec := { name := "fnExactBlobBend", vars := ["loop.example/g00954/impl.shaWords"], fn := fun _ => fun
  | [d1, d2, g1] => { results := [.lit (.bool true)], args := [d1, d2], vars := [g1] }
  | _ => none }
def fnExactBlobBendRow : OpenClaim := { program := "ytndhmnoehapdhaadoor", sum := "31168bf3885a7b8448cd09e5f495493dfb88344daeade4827ba47234c9adfac6", func := "loop.example/g00954/laws.FnExactBlobBend", spec := "fnExactBlobBend", unfollowed := true, recurses := true, named := ["loop.example/g00954/impl.shaWords"], apart := false, laid := [("loop.example/g00954/impl.shaWords", laid_loop_example_g00954_impl_shaWords)] }
def FnExactBlobBendSaid : Prop := fnExactBlobBendRow.holds Tryd.pinned (OpenSpec.ofChange fnExactBlobBendSpec)

/-- ITS FALSE NEIGHBOUR: 'it returns false'. Refute it at one input. -/
def fnExactBlobBendWrong : ChangeSpec := { name := "fnExactBlobBend", vars := ["loop.example/g00954/impl.shaWords"], fn := fun _ => fun
  | [d1, d2, g1] => { results := [.lit (.bool false)], args := [d1, d2], vars := [g1] }
  | _ => none }
def FnExactBlobBendWrongFalsely : Prop := fnExactBlobBendRow.holds Tryd.pinned (OpenSpec.ofChange fnExactBlobBendWrong)

/-- 'laws.FnExactFetch': WHATEVER THE INPUT: true; the input reads as it did. -/
def fnExactFetchSpec : ChangeSpec := { name := "fnExactFetch", vars := ["loop.example/g00954/impl.shaWords"], fn := fun _ => fun
  | [d1, d2, g1] => { results := [.lit (.bool true)], args := [d1, d2], vars := [g1] }
  | _ => none }
def fnExactFetchRow : OpenClaim := { program := "ytndhmnoehapdhaadoor", sum := "31168bf3885a7b8448cd09e5f495493dfb88344daeade4827ba47234c9adfac6", func := "loop.example/g00954/laws.FnExactFetch", spec := "fnExactFetch", unfollowed := true, recurses := true, named := ["loop.example/g00954/impl.shaWords"], apart := false, laid := [("loop.example/g00954/impl.shaWords", laid_loop_example_g00954_impl_shaWords)] }
def FnExactFetchSaid : Prop := fnExactFetchRow.holds Tryd.pinned (OpenSpec.ofChange fnExactFetchSpec)

/-- ITS FALSE NEIGHBOUR: 'it returns false'. Refute it at one input. -/
def fnExactFetchWrong : ChangeSpec := { name := "fnExactFetch", vars := ["loop.example/g00954/impl.shaWords"], fn := fun _ => fun
  | [d1, d2, g1] => { results := [.lit (.bool false)], args := [d1, d2], vars := [g1] }
  | _ => none }
def FnExactFetchWrongFalsely : Prop := fnExactFetchRow.holds Tryd.pinned (OpenSpec.ofChange fnExactFetchWrong)

/-- 'laws.FnExactBlobPut': WHATEVER THE INPUT: true; the input reads as it did. -/
def fnExactBlobPutSpec : ChangeSpec := { name := "fnExactBlobPut", vars := ["loop.example/g00954/impl.shaWords"], fn := fun _ => fun
  | [d1, d2, g1] => { results := [.lit (.bool true)], args := [d1, d2], vars := [g1] }
  | _ => none }
def fnExactBlobPutRow : OpenClaim := { program := "ytndhmnoehapdhaadoor", sum := "31168bf3885a7b8448cd09e5f495493dfb88344daeade4827ba47234c9adfac6", func := "loop.example/g00954/laws.FnExactBlobPut", spec := "fnExactBlobPut", unfollowed := true, recurses := true, named := ["loop.example/g00954/impl.shaWords"], apart := false, laid := [("loop.example/g00954/impl.shaWords", laid_loop_example_g00954_impl_shaWords)] }
def FnExactBlobPutSaid : Prop := fnExactBlobPutRow.holds Tryd.pinned (OpenSpec.ofChange fnExactBlobPutSpec)

/-- ITS FALSE NEIGHBOUR: 'it returns false'. Refute it at one input. -/
def fnExactBlobPutWrong : ChangeSpec := { name := "fnExactBlobPut", vars := ["loop.example/g00954/impl.shaWords"], fn := fun _ => fun
  | [d1, d2, g1] => { results := [.lit (.bool false)], args := [d1, d2], vars := [g1] }
  | _ => none }
def FnExactBlobPutWrongFalsely : Prop := fnExactBlobPutRow.holds Tryd.pinned (OpenSpec.ofChange fnExactBlobPutWrong)

/-- 'laws.FnExactRestore': WHATEVER THE INPUT: true; the input reads as it did. -/
def fnExactRestoreSpec : ChangeSpec := { name := "fnExactRestore", vars := ["loop.example/g00954/impl.shaWords"], fn := fun _ => fun
  | [d1, d2, d3, d4, g1] => { results := [.lit (.bool true)], args := [d1, d2, d3, d4], vars := [g1] }
  | _ => none }
def fnExactRestoreRow : OpenClaim := { program := "ytndhmnoehapdhaadoor", sum := "31168bf3885a7b8448cd09e5f495493dfb88344daeade4827ba47234c9adfac6", func := "loop.example/g00954/laws.FnExactRestore", spec := "fnExactRestore", unfollowed := true, recurses := true, named := ["loop.example/g00954/impl.shaWords"], apart := false, laid := [("loop.example/g00954/impl.shaWords", laid_loop_example_g00954_impl_shaWords)] }
def FnExactRestoreSaid : Prop := fnExactRestoreRow.holds Tryd.pinned (OpenSpec.ofChange fnExactRestoreSpec)

/-- ITS FALSE NEIGHBOUR: 'it returns false'. Refute it at one input. -/
def fnExactRestoreWrong : ChangeSpec := { name := "fnExactRestore", vars := ["loop.example/g00954/impl.shaWords"], fn := fun _ => fun
  | [d1, d2, d3, d4, g1] => { results := [.lit (.bool false)], args := [d1, d2, d3, d4], vars := [g1] }
  | _ => none }
def FnExactRestoreWrongFalsely : Prop := fnExactRestoreRow.holds Tryd.pinned (OpenSpec.ofChange fnExactRestoreWrong)

/-- 'laws.FnExactWhole': WHATEVER THE INPUT: true; the input reads as it did. -/
def fnExactWholeSpec : ChangeSpec := { name := "fnExactWhole", vars := ["loop.example/g00954/impl.shaWords"], fn := fun _ => fun
  | [d1, d2, g1] => { results := [.lit (.bool true)], args := [d1, d2], vars := [g1] }
  | _ => none }
def fnExactWholeRow : OpenClaim := { program := "ytndhmnoehapdhaadoor", sum := "31168bf3885a7b8448cd09e5f495493dfb88344daeade4827ba47234c9adfac6", func := "loop.example/g00954/laws.FnExactWhole", spec := "fnExactWhole", unfollowed := true, recurses := true, named := ["loop.example/g00954/impl.shaWords"], apart := false, laid := [("loop.example/g00954/impl.shaWords", laid_loop_example_g00954_impl_shaWords)] }
def FnExactWholeSaid : Prop := fnExactWholeRow.holds Tryd.pinned (OpenSpec.ofChange fnExactWholeSpec)

/-- ITS FALSE NEIGHBOUR: 'it returns false'. Refute it at one input. -/
def fnExactWholeWrong : ChangeSpec := { name := "fnExactWhole", vars := ["loop.example/g00954/impl.shaWords"], fn := fun _ => fun
  | [d1, d2, g1] => { results := [.lit (.bool false)], args := [d1, d2], vars := [g1] }
  | _ => none }
def FnExactWholeWrongFalsely : Prop := fnExactWholeRow.holds Tryd.pinned (OpenSpec.ofChange fnExactWholeWrong)

/-- 'laws.FnBlobs': WHATEVER THE INPUT: true; the input reads as it did. -/
def fnBlobsSpec : ChangeSpec := { name := "fnBlobs", vars := ["loop.example/g00954/impl.shaWords"], fn := fun _ => fun
  | [d, g1] => { results := [.lit (.bool true)], args := [d], vars := [g1] }
  | _ => none }
def fnBlobsRow : OpenClaim := { program := "ytndhmnoehapdhaadoor", sum := "31168bf3885a7b8448cd09e5f495493dfb88344daeade4827ba47234c9adfac6", func := "loop.example/g00954/laws.FnBlobs", spec := "fnBlobs", unfollowed := true, recurses := true, named := ["loop.example/g00954/impl.shaWords"], apart := false, laid := [("loop.example/g00954/impl.shaWords", laid_loop_example_g00954_impl_shaWords)] }
def FnBlobsSaid : Prop := fnBlobsRow.holds Tryd.pinned (OpenSpec.ofChange fnBlobsSpec)

/-- ITS FALSE NEIGHBOUR: 'it returns false'. Refute it at one input. -/
def fnBlobsWrong : ChangeSpec := { name := "fnBlobs", vars := ["loop.example/g00954/impl.shaWords"], fn := fun _ => fun
  | [d, g1] => { results := [.lit (.bool false)], args := [d], vars := [g1] }
  | _ => none }
def FnBlobsWrongFalsely : Prop := fnBlobsRow.holds Tryd.pinned (OpenSpec.ofChange fnBlobsWrong)

/-- 'laws.FnRestore': WHATEVER THE INPUT: true; the input reads as it did. -/
def fnRestoreSpec : ChangeSpec := { name := "fnRestore", vars := ["loop.example/g00954/impl.shaWords"], fn := fun _ => fun
  | [d, g1] => { results := [.lit (.bool true)], args := [d], vars := [g1] }
  | _ => none }
def fnRestoreRow : OpenClaim := { program := "ytndhmnoehapdhaadoor", sum := "31168bf3885a7b8448cd09e5f495493dfb88344daeade4827ba47234c9adfac6", func := "loop.example/g00954/laws.FnRestore", spec := "fnRestore", unfollowed := true, recurses := true, named := ["loop.example/g00954/impl.shaWords"], apart := false, laid := [("loop.example/g00954/impl.shaWords", laid_loop_example_g00954_impl_shaWords)] }
def FnRestoreSaid : Prop := fnRestoreRow.holds Tryd.pinned (OpenSpec.ofChange fnRestoreSpec)

/-- ITS FALSE NEIGHBOUR: 'it returns false'. Refute it at one input. -/
def fnRestoreWrong : ChangeSpec := { name := "fnRestore", vars := ["loop.example/g00954/impl.shaWords"], fn := fun _ => fun
  | [d, g1] => { results := [.lit (.bool false)], args := [d], vars := [g1] }
  | _ => none }
def FnRestoreWrongFalsely : Prop := fnRestoreRow.holds Tryd.pinned (OpenSpec.ofChange fnRestoreWrong)

/-- 'laws.FnCut': WHATEVER THE INPUT: true; the input reads as it did. -/
def fnCutSpec : ChangeSpec := { name := "fnCut", vars := ["loop.example/g00954/impl.shaWords"], fn := fun _ => fun
  | [d, g1] => { results := [.lit (.bool true)], args := [d], vars := [g1] }
  | _ => none }
def fnCutRow : OpenClaim := { program := "ytndhmnoehapdhaadoor", sum := "31168bf3885a7b8448cd09e5f495493dfb88344daeade4827ba47234c9adfac6", func := "loop.example/g00954/laws.FnCut", spec := "fnCut", named := ["loop.example/g00954/impl.shaWords"], apart := false, laid := [("loop.example/g00954/impl.shaWords", laid_loop_example_g00954_impl_shaWords)] }
def FnCutSaid : Prop := fnCutRow.holds Tryd.pinned (OpenSpec.ofChange fnCutSpec)

/-- ITS FALSE NEIGHBOUR: 'it returns false'. Refute it at one input. -/
def fnCutWrong : ChangeSpec := { name := "fnCut", vars := ["loop.example/g00954/impl.shaWords"], fn := fun _ => fun
  | [d, g1] => { results := [.lit (.bool false)], args := [d], vars := [g1] }
  | _ => none }
def FnCutWrongFalsely : Prop := fnCutRow.holds Tryd.pinned (OpenSpec.ofChange fnCutWrong)

/- THE SECOND FORM. 'bulk': how many values and letters a reading holds, each counted each time it is reached (what is shared counts as often as it is met; a slice's spare places count too). A statement '..UptoSaid' is the law's where the arguments, and the package variables that the reading takes, are together of bulk at most 1048576: NARROWER than '..Said'. Prove '..Said' where nothing that the law and all that it calls make is longer than what came in: it says more and counts as full. Else prove '..UptoSaid'. A law counts once. -/
mutual
def uptoBulk {H : Type} : DataW H → Nat
  | .lit (.string bytes) => bytes.length + 1
  | .lit _ => 1
  | .nil => 1
  | .ptr d => uptoBulk d + 1
  | .slice elems spare => uptoBulkAll elems + uptoBulkAll spare + 1
  | .agg parts => uptoBulkAll parts + 1
  | .iface _ d => uptoBulk d + 1
  | .map entries => uptoBulkEntries entries + 1
  | .held _ => 1
def uptoBulkAll {H : Type} : List (DataW H) → Nat
  | [] => 0
  | d :: r => uptoBulk d + uptoBulkAll r
def uptoBulkEntries {H : Type} : List (Lit × DataW H) → Nat
  | [] => 0
  | x :: r => uptoBulkEntry x + uptoBulkEntries r
def uptoBulkEntry {H : Type} : Lit × DataW H → Nat
  | (.string bytes, d) => bytes.length + uptoBulk d + 1
  | (_, d) => uptoBulk d + 1
 end
def uptoSmall : (H : Type) → List (DataW H) → Bool := fun _ ds => decide (uptoBulkAll ds ≤ 1048576)
def OpenSpec.upto (s : _root_.Go.ChangeSpec) : _root_.Go.OpenSpec := { _root_.Go.OpenSpec.ofChange s with cond := some uptoSmall }

/-- 'laws.FnExactBlobGet', WHERE WHAT IT READS IS OF BULK AT MOST 1048576: true; the input reads as it did. -/
def fnExactBlobGetUptoRow : OpenClaim := { program := "ytndhmnoehapdhaadoor", sum := "31168bf3885a7b8448cd09e5f495493dfb88344daeade4827ba47234c9adfac6", func := "loop.example/g00954/laws.FnExactBlobGet", spec := "fnExactBlobGet", unfollowed := true, recurses := true, named := ["loop.example/g00954/impl.shaWords"], apart := false, laid := [("loop.example/g00954/impl.shaWords", laid_loop_example_g00954_impl_shaWords)], narrowed := true }
def FnExactBlobGetUptoSaid : Prop := fnExactBlobGetUptoRow.holds Tryd.pinned (OpenSpec.upto fnExactBlobGetSpec)

/-- 'laws.FnExactBlobDrop', WHERE WHAT IT READS IS OF BULK AT MOST 1048576: true; the input reads as it did. -/
def fnExactBlobDropUptoRow : OpenClaim := { program := "ytndhmnoehapdhaadoor", sum := "31168bf3885a7b8448cd09e5f495493dfb88344daeade4827ba47234c9adfac6", func := "loop.example/g00954/laws.FnExactBlobDrop", spec := "fnExactBlobDrop", unfollowed := true, recurses := true, named := ["loop.example/g00954/impl.shaWords"], apart := false, laid := [("loop.example/g00954/impl.shaWords", laid_loop_example_g00954_impl_shaWords)], narrowed := true }
def FnExactBlobDropUptoSaid : Prop := fnExactBlobDropUptoRow.holds Tryd.pinned (OpenSpec.upto fnExactBlobDropSpec)

/-- 'laws.FnExactBlobBend', WHERE WHAT IT READS IS OF BULK AT MOST 1048576: true; the input reads as it did. -/
def fnExactBlobBendUptoRow : OpenClaim := { program := "ytndhmnoehapdhaadoor", sum := "31168bf3885a7b8448cd09e5f495493dfb88344daeade4827ba47234c9adfac6", func := "loop.example/g00954/laws.FnExactBlobBend", spec := "fnExactBlobBend", unfollowed := true, recurses := true, named := ["loop.example/g00954/impl.shaWords"], apart := false, laid := [("loop.example/g00954/impl.shaWords", laid_loop_example_g00954_impl_shaWords)], narrowed := true }
def FnExactBlobBendUptoSaid : Prop := fnExactBlobBendUptoRow.holds Tryd.pinned (OpenSpec.upto fnExactBlobBendSpec)

/-- 'laws.FnExactFetch', WHERE WHAT IT READS IS OF BULK AT MOST 1048576: true; the input reads as it did. -/
def fnExactFetchUptoRow : OpenClaim := { program := "ytndhmnoehapdhaadoor", sum := "31168bf3885a7b8448cd09e5f495493dfb88344daeade4827ba47234c9adfac6", func := "loop.example/g00954/laws.FnExactFetch", spec := "fnExactFetch", unfollowed := true, recurses := true, named := ["loop.example/g00954/impl.shaWords"], apart := false, laid := [("loop.example/g00954/impl.shaWords", laid_loop_example_g00954_impl_shaWords)], narrowed := true }
def FnExactFetchUptoSaid : Prop := fnExactFetchUptoRow.holds Tryd.pinned (OpenSpec.upto fnExactFetchSpec)

/-- 'laws.FnExactBlobPut', WHERE WHAT IT READS IS OF BULK AT MOST 1048576: true; the input reads as it did. -/
def fnExactBlobPutUptoRow : OpenClaim := { program := "ytndhmnoehapdhaadoor", sum := "31168bf3885a7b8448cd09e5f495493dfb88344daeade4827ba47234c9adfac6", func := "loop.example/g00954/laws.FnExactBlobPut", spec := "fnExactBlobPut", unfollowed := true, recurses := true, named := ["loop.example/g00954/impl.shaWords"], apart := false, laid := [("loop.example/g00954/impl.shaWords", laid_loop_example_g00954_impl_shaWords)], narrowed := true }
def FnExactBlobPutUptoSaid : Prop := fnExactBlobPutUptoRow.holds Tryd.pinned (OpenSpec.upto fnExactBlobPutSpec)

/-- 'laws.FnExactRestore', WHERE WHAT IT READS IS OF BULK AT MOST 1048576: true; the input reads as it did. -/
def fnExactRestoreUptoRow : OpenClaim := { program := "ytndhmnoehapdhaadoor", sum := "31168bf3885a7b8448cd09e5f495493dfb88344daeade4827ba47234c9adfac6", func := "loop.example/g00954/laws.FnExactRestore", spec := "fnExactRestore", unfollowed := true, recurses := true, named := ["loop.example/g00954/impl.shaWords"], apart := false, laid := [("loop.example/g00954/impl.shaWords", laid_loop_example_g00954_impl_shaWords)], narrowed := true }
def FnExactRestoreUptoSaid : Prop := fnExactRestoreUptoRow.holds Tryd.pinned (OpenSpec.upto fnExactRestoreSpec)

/-- 'laws.FnExactWhole', WHERE WHAT IT READS IS OF BULK AT MOST 1048576: true; the input reads as it did. -/
def fnExactWholeUptoRow : OpenClaim := { program := "ytndhmnoehapdhaadoor", sum := "31168bf3885a7b8448cd09e5f495493dfb88344daeade4827ba47234c9adfac6", func := "loop.example/g00954/laws.FnExactWhole", spec := "fnExactWhole", unfollowed := true, recurses := true, named := ["loop.example/g00954/impl.shaWords"], apart := false, laid := [("loop.example/g00954/impl.shaWords", laid_loop_example_g00954_impl_shaWords)], narrowed := true }
def FnExactWholeUptoSaid : Prop := fnExactWholeUptoRow.holds Tryd.pinned (OpenSpec.upto fnExactWholeSpec)

/-- 'laws.FnBlobs', WHERE WHAT IT READS IS OF BULK AT MOST 1048576: true; the input reads as it did. -/
def fnBlobsUptoRow : OpenClaim := { program := "ytndhmnoehapdhaadoor", sum := "31168bf3885a7b8448cd09e5f495493dfb88344daeade4827ba47234c9adfac6", func := "loop.example/g00954/laws.FnBlobs", spec := "fnBlobs", unfollowed := true, recurses := true, named := ["loop.example/g00954/impl.shaWords"], apart := false, laid := [("loop.example/g00954/impl.shaWords", laid_loop_example_g00954_impl_shaWords)], narrowed := true }
def FnBlobsUptoSaid : Prop := fnBlobsUptoRow.holds Tryd.pinned (OpenSpec.upto fnBlobsSpec)

/-- 'laws.FnRestore', WHERE WHAT IT READS IS OF BULK AT MOST 1048576: true; the input reads as it did. -/
def fnRestoreUptoRow : OpenClaim := { program := "ytndhmnoehapdhaadoor", sum := "31168bf3885a7b8448cd09e5f495493dfb88344daeade4827ba47234c9adfac6", func := "loop.example/g00954/laws.FnRestore", spec := "fnRestore", unfollowed := true, recurses := true, named := ["loop.example/g00954/impl.shaWords"], apart := false, laid := [("loop.example/g00954/impl.shaWords", laid_loop_example_g00954_impl_shaWords)], narrowed := true }
def FnRestoreUptoSaid : Prop := fnRestoreUptoRow.holds Tryd.pinned (OpenSpec.upto fnRestoreSpec)

/-- 'laws.FnCut', WHERE WHAT IT READS IS OF BULK AT MOST 1048576: true; the input reads as it did. -/
def fnCutUptoRow : OpenClaim := { program := "ytndhmnoehapdhaadoor", sum := "31168bf3885a7b8448cd09e5f495493dfb88344daeade4827ba47234c9adfac6", func := "loop.example/g00954/laws.FnCut", spec := "fnCut", named := ["loop.example/g00954/impl.shaWords"], apart := false, laid := [("loop.example/g00954/impl.shaWords", laid_loop_example_g00954_impl_shaWords)], narrowed := true }
def FnCutUptoSaid : Prop := fnCutUptoRow.holds Tryd.pinned (OpenSpec.upto fnCutSpec)

end Rows
end Go.Proofs.YtndhmnoehapdhaaDoor
