/-
  DERIVED. GIVEN WITH THE SEED: THE CARDS: each row of YtcfeafpjkcmdiaaGreatDoorRows.lean that lists a variable, with what it lists TIED to the program's text (the seventh form; the later family's looks); each row that meets fmt, with fmt's text TOLD by the authors' own Lean function (tested against real Go, not proved from fmt's source: count such statements apart). THE CARD IS WHAT COUNTS. Prove the row's statement (the work); the ties are given (YtcfeafpjkcmdiaaGreatDoorTie.lean); close each card by the builder's one call (the guide's Derived/Test/ToyasCard.lean, 'card_holds'). Laid BY PROGRAM, IN A SANDBOX (cutbox-door.mjs). By AI agents, Wed Nov 11 2026. No macro, syntax, notation, axiom, sorry.
-/
import Derived.Test.YtcfeafpjkcmdiaaGreatDoorRows
import GoSem.ClaimSeven
namespace Go.Proofs.YtcfeafpjkcmdiaaGreatDoor
namespace Rows

/-- THE TIED CARD OF 'flangelaw23.SessionNone'. -/
def sessionNoneCard : Claim7 := { stood := { row := sessionNoneRow, standIns := [], harness := (true, "2a912746c676ceb347eb9ba86be425c1ad037fb692bf26ca8761ccdcc5c6b620"), looks := true }, kinds := [], alts := [], laidByText := true, laidKinds := [.data, .data, .data, .data, .sentinel, .sentinel, .pinned], laidTests := true, laidLooks := .later }
def SessionNoneCardSaid : Prop := Claim7.holds Tryz.pinned (.plain (OpenSpec.ofChange sessionNoneSpec)) sessionNoneCard

/-- THE TIED CARD OF 'flangelaw25.SuperviseNone'. -/
def superviseNoneCard : Claim7 := { stood := { row := superviseNoneRow, standIns := [], harness := (true, "2a912746c676ceb347eb9ba86be425c1ad037fb692bf26ca8761ccdcc5c6b620"), looks := true }, kinds := [], alts := [], laidByText := true, laidKinds := [.data, .data, .data, .data, .sentinel, .sentinel, .pinned], laidTests := true, laidLooks := .later }
def SuperviseNoneCardSaid : Prop := Claim7.holds Tryz.pinned (.plain (OpenSpec.ofChange superviseNoneSpec)) superviseNoneCard

/-- THE SECOND FORM's CARD OF 'flangelaw23.SessionNone'. -/
def sessionNoneUptoCard : Claim7 := { stood := { row := sessionNoneUptoRow, standIns := [], harness := (true, "2a912746c676ceb347eb9ba86be425c1ad037fb692bf26ca8761ccdcc5c6b620"), looks := true }, kinds := [], alts := [], laidByText := true, laidKinds := [.data, .data, .data, .data, .sentinel, .sentinel, .pinned], laidTests := true, laidLooks := .later }
def SessionNoneUptoCardSaid : Prop := Claim7.holds Tryz.pinned (.plain (OpenSpec.upto sessionNoneSpec)) sessionNoneUptoCard

/-- THE SECOND FORM's CARD OF 'flangelaw25.SuperviseNone'. -/
def superviseNoneUptoCard : Claim7 := { stood := { row := superviseNoneUptoRow, standIns := [], harness := (true, "2a912746c676ceb347eb9ba86be425c1ad037fb692bf26ca8761ccdcc5c6b620"), looks := true }, kinds := [], alts := [], laidByText := true, laidKinds := [.data, .data, .data, .data, .sentinel, .sentinel, .pinned], laidTests := true, laidLooks := .later }
def SuperviseNoneUptoCardSaid : Prop := Claim7.holds Tryz.pinned (.plain (OpenSpec.upto superviseNoneSpec)) superviseNoneUptoCard
end Rows
end Go.Proofs.YtcfeafpjkcmdiaaGreatDoor
