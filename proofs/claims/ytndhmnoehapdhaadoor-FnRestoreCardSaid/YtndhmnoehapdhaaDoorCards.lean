/-
  DERIVED. GIVEN WITH THE SEED: THE CARDS: each row of YtndhmnoehapdhaaDoorRows.lean that lists a variable, with what it lists TIED to the program's text (the seventh form; the later family's looks); each row that meets fmt, with fmt's text TOLD by the authors' own Lean function (tested against real Go, not proved from fmt's source: count such statements apart). THE CARD IS WHAT COUNTS. Prove the row's statement (the work); the ties are given (YtndhmnoehapdhaaDoorTie.lean); close each card by the builder's one call (the guide's Derived/Test/ToyasCard.lean, 'card_holds'). Laid BY PROGRAM, IN A SANDBOX (cutbox-door.mjs). By AI agents, Wed Nov 11 2026. No macro, syntax, notation, axiom, sorry.
-/
import Derived.Test.YtndhmnoehapdhaaDoorRows
import GoSem.ClaimSeven
namespace Go.Proofs.YtndhmnoehapdhaaDoor
namespace Rows

/-- THE TIED CARD OF 'laws.FnExactBlobGet'. -/
def fnExactBlobGetCard : Claim7 := { stood := { row := fnExactBlobGetRow, standIns := [], harness := (true, "d8aa2fa6288f4397fca273a299fafd16d20048636f1b016a9049a221e89798ea"), looks := false }, kinds := [], alts := [], laidByText := true, laidKinds := [.data], laidTests := true, laidLooks := .later }
def FnExactBlobGetCardSaid : Prop := Claim7.holds Tryd.pinned (.plain (OpenSpec.ofChange fnExactBlobGetSpec)) fnExactBlobGetCard

/-- THE TIED CARD OF 'laws.FnExactBlobDrop'. -/
def fnExactBlobDropCard : Claim7 := { stood := { row := fnExactBlobDropRow, standIns := [], harness := (true, "d8aa2fa6288f4397fca273a299fafd16d20048636f1b016a9049a221e89798ea"), looks := false }, kinds := [], alts := [], laidByText := true, laidKinds := [.data], laidTests := true, laidLooks := .later }
def FnExactBlobDropCardSaid : Prop := Claim7.holds Tryd.pinned (.plain (OpenSpec.ofChange fnExactBlobDropSpec)) fnExactBlobDropCard

/-- THE TIED CARD OF 'laws.FnExactBlobBend'. -/
def fnExactBlobBendCard : Claim7 := { stood := { row := fnExactBlobBendRow, standIns := [], harness := (true, "d8aa2fa6288f4397fca273a299fafd16d20048636f1b016a9049a221e89798ea"), looks := false }, kinds := [], alts := [], laidByText := true, laidKinds := [.data], laidTests := true, laidLooks := .later }
def FnExactBlobBendCardSaid : Prop := Claim7.holds Tryd.pinned (.plain (OpenSpec.ofChange fnExactBlobBendSpec)) fnExactBlobBendCard

/-- THE TIED CARD OF 'laws.FnExactFetch'. -/
def fnExactFetchCard : Claim7 := { stood := { row := fnExactFetchRow, standIns := [], harness := (true, "d8aa2fa6288f4397fca273a299fafd16d20048636f1b016a9049a221e89798ea"), looks := false }, kinds := [], alts := [], laidByText := true, laidKinds := [.data], laidTests := true, laidLooks := .later }
def FnExactFetchCardSaid : Prop := Claim7.holds Tryd.pinned (.plain (OpenSpec.ofChange fnExactFetchSpec)) fnExactFetchCard

/-- THE TIED CARD OF 'laws.FnExactBlobPut'. -/
def fnExactBlobPutCard : Claim7 := { stood := { row := fnExactBlobPutRow, standIns := [], harness := (true, "d8aa2fa6288f4397fca273a299fafd16d20048636f1b016a9049a221e89798ea"), looks := false }, kinds := [], alts := [], laidByText := true, laidKinds := [.data], laidTests := true, laidLooks := .later }
def FnExactBlobPutCardSaid : Prop := Claim7.holds Tryd.pinned (.plain (OpenSpec.ofChange fnExactBlobPutSpec)) fnExactBlobPutCard

/-- THE TIED CARD OF 'laws.FnExactRestore'. -/
def fnExactRestoreCard : Claim7 := { stood := { row := fnExactRestoreRow, standIns := [], harness := (true, "d8aa2fa6288f4397fca273a299fafd16d20048636f1b016a9049a221e89798ea"), looks := false }, kinds := [], alts := [], laidByText := true, laidKinds := [.data], laidTests := true, laidLooks := .later }
def FnExactRestoreCardSaid : Prop := Claim7.holds Tryd.pinned (.plain (OpenSpec.ofChange fnExactRestoreSpec)) fnExactRestoreCard

/-- THE TIED CARD OF 'laws.FnExactWhole'. -/
def fnExactWholeCard : Claim7 := { stood := { row := fnExactWholeRow, standIns := [], harness := (true, "d8aa2fa6288f4397fca273a299fafd16d20048636f1b016a9049a221e89798ea"), looks := false }, kinds := [], alts := [], laidByText := true, laidKinds := [.data], laidTests := true, laidLooks := .later }
def FnExactWholeCardSaid : Prop := Claim7.holds Tryd.pinned (.plain (OpenSpec.ofChange fnExactWholeSpec)) fnExactWholeCard

/-- THE TIED CARD OF 'laws.FnBlobs'. -/
def fnBlobsCard : Claim7 := { stood := { row := fnBlobsRow, standIns := [], harness := (true, "d8aa2fa6288f4397fca273a299fafd16d20048636f1b016a9049a221e89798ea"), looks := false }, kinds := [], alts := [], laidByText := true, laidKinds := [.data], laidTests := true, laidLooks := .later }
def FnBlobsCardSaid : Prop := Claim7.holds Tryd.pinned (.plain (OpenSpec.ofChange fnBlobsSpec)) fnBlobsCard

/-- THE TIED CARD OF 'laws.FnRestore'. -/
def fnRestoreCard : Claim7 := { stood := { row := fnRestoreRow, standIns := [], harness := (true, "d8aa2fa6288f4397fca273a299fafd16d20048636f1b016a9049a221e89798ea"), looks := false }, kinds := [], alts := [], laidByText := true, laidKinds := [.data], laidTests := true, laidLooks := .later }
def FnRestoreCardSaid : Prop := Claim7.holds Tryd.pinned (.plain (OpenSpec.ofChange fnRestoreSpec)) fnRestoreCard

/-- THE TIED CARD OF 'laws.FnCut'. -/
def fnCutCard : Claim7 := { stood := { row := fnCutRow, standIns := [], harness := (true, "d8aa2fa6288f4397fca273a299fafd16d20048636f1b016a9049a221e89798ea"), looks := false }, kinds := [], alts := [], laidByText := true, laidKinds := [.data], laidTests := true, laidLooks := .later }
def FnCutCardSaid : Prop := Claim7.holds Tryd.pinned (.plain (OpenSpec.ofChange fnCutSpec)) fnCutCard

/-- THE SECOND FORM's CARD OF 'laws.FnExactBlobGet'. -/
def fnExactBlobGetUptoCard : Claim7 := { stood := { row := fnExactBlobGetUptoRow, standIns := [], harness := (true, "d8aa2fa6288f4397fca273a299fafd16d20048636f1b016a9049a221e89798ea"), looks := false }, kinds := [], alts := [], laidByText := true, laidKinds := [.data], laidTests := true, laidLooks := .later }
def FnExactBlobGetUptoCardSaid : Prop := Claim7.holds Tryd.pinned (.plain (OpenSpec.upto fnExactBlobGetSpec)) fnExactBlobGetUptoCard

/-- THE SECOND FORM's CARD OF 'laws.FnExactBlobDrop'. -/
def fnExactBlobDropUptoCard : Claim7 := { stood := { row := fnExactBlobDropUptoRow, standIns := [], harness := (true, "d8aa2fa6288f4397fca273a299fafd16d20048636f1b016a9049a221e89798ea"), looks := false }, kinds := [], alts := [], laidByText := true, laidKinds := [.data], laidTests := true, laidLooks := .later }
def FnExactBlobDropUptoCardSaid : Prop := Claim7.holds Tryd.pinned (.plain (OpenSpec.upto fnExactBlobDropSpec)) fnExactBlobDropUptoCard

/-- THE SECOND FORM's CARD OF 'laws.FnExactBlobBend'. -/
def fnExactBlobBendUptoCard : Claim7 := { stood := { row := fnExactBlobBendUptoRow, standIns := [], harness := (true, "d8aa2fa6288f4397fca273a299fafd16d20048636f1b016a9049a221e89798ea"), looks := false }, kinds := [], alts := [], laidByText := true, laidKinds := [.data], laidTests := true, laidLooks := .later }
def FnExactBlobBendUptoCardSaid : Prop := Claim7.holds Tryd.pinned (.plain (OpenSpec.upto fnExactBlobBendSpec)) fnExactBlobBendUptoCard

/-- THE SECOND FORM's CARD OF 'laws.FnExactFetch'. -/
def fnExactFetchUptoCard : Claim7 := { stood := { row := fnExactFetchUptoRow, standIns := [], harness := (true, "d8aa2fa6288f4397fca273a299fafd16d20048636f1b016a9049a221e89798ea"), looks := false }, kinds := [], alts := [], laidByText := true, laidKinds := [.data], laidTests := true, laidLooks := .later }
def FnExactFetchUptoCardSaid : Prop := Claim7.holds Tryd.pinned (.plain (OpenSpec.upto fnExactFetchSpec)) fnExactFetchUptoCard

/-- THE SECOND FORM's CARD OF 'laws.FnExactBlobPut'. -/
def fnExactBlobPutUptoCard : Claim7 := { stood := { row := fnExactBlobPutUptoRow, standIns := [], harness := (true, "d8aa2fa6288f4397fca273a299fafd16d20048636f1b016a9049a221e89798ea"), looks := false }, kinds := [], alts := [], laidByText := true, laidKinds := [.data], laidTests := true, laidLooks := .later }
def FnExactBlobPutUptoCardSaid : Prop := Claim7.holds Tryd.pinned (.plain (OpenSpec.upto fnExactBlobPutSpec)) fnExactBlobPutUptoCard

/-- THE SECOND FORM's CARD OF 'laws.FnExactRestore'. -/
def fnExactRestoreUptoCard : Claim7 := { stood := { row := fnExactRestoreUptoRow, standIns := [], harness := (true, "d8aa2fa6288f4397fca273a299fafd16d20048636f1b016a9049a221e89798ea"), looks := false }, kinds := [], alts := [], laidByText := true, laidKinds := [.data], laidTests := true, laidLooks := .later }
def FnExactRestoreUptoCardSaid : Prop := Claim7.holds Tryd.pinned (.plain (OpenSpec.upto fnExactRestoreSpec)) fnExactRestoreUptoCard

/-- THE SECOND FORM's CARD OF 'laws.FnExactWhole'. -/
def fnExactWholeUptoCard : Claim7 := { stood := { row := fnExactWholeUptoRow, standIns := [], harness := (true, "d8aa2fa6288f4397fca273a299fafd16d20048636f1b016a9049a221e89798ea"), looks := false }, kinds := [], alts := [], laidByText := true, laidKinds := [.data], laidTests := true, laidLooks := .later }
def FnExactWholeUptoCardSaid : Prop := Claim7.holds Tryd.pinned (.plain (OpenSpec.upto fnExactWholeSpec)) fnExactWholeUptoCard

/-- THE SECOND FORM's CARD OF 'laws.FnBlobs'. -/
def fnBlobsUptoCard : Claim7 := { stood := { row := fnBlobsUptoRow, standIns := [], harness := (true, "d8aa2fa6288f4397fca273a299fafd16d20048636f1b016a9049a221e89798ea"), looks := false }, kinds := [], alts := [], laidByText := true, laidKinds := [.data], laidTests := true, laidLooks := .later }
def FnBlobsUptoCardSaid : Prop := Claim7.holds Tryd.pinned (.plain (OpenSpec.upto fnBlobsSpec)) fnBlobsUptoCard

/-- THE SECOND FORM's CARD OF 'laws.FnRestore'. -/
def fnRestoreUptoCard : Claim7 := { stood := { row := fnRestoreUptoRow, standIns := [], harness := (true, "d8aa2fa6288f4397fca273a299fafd16d20048636f1b016a9049a221e89798ea"), looks := false }, kinds := [], alts := [], laidByText := true, laidKinds := [.data], laidTests := true, laidLooks := .later }
def FnRestoreUptoCardSaid : Prop := Claim7.holds Tryd.pinned (.plain (OpenSpec.upto fnRestoreSpec)) fnRestoreUptoCard

/-- THE SECOND FORM's CARD OF 'laws.FnCut'. -/
def fnCutUptoCard : Claim7 := { stood := { row := fnCutUptoRow, standIns := [], harness := (true, "d8aa2fa6288f4397fca273a299fafd16d20048636f1b016a9049a221e89798ea"), looks := false }, kinds := [], alts := [], laidByText := true, laidKinds := [.data], laidTests := true, laidLooks := .later }
def FnCutUptoCardSaid : Prop := Claim7.holds Tryd.pinned (.plain (OpenSpec.upto fnCutSpec)) fnCutUptoCard
end Rows
end Go.Proofs.YtndhmnoehapdhaaDoor
