/-
  DERIVED. GIVEN WITH THE SEED: THE CARDS: each row of YthaolifcglpkdaaGreatDoorRows.lean that lists a variable, with what it lists TIED to the program's text (the seventh form; the later family's looks); each row that meets fmt, with fmt's text TOLD by the authors' own Lean function (tested against real Go, not proved from fmt's source: count such statements apart). THE CARD IS WHAT COUNTS. Prove the row's statement (the work); the ties are given (YthaolifcglpkdaaGreatDoorTie.lean); close each card by the builder's one call (the guide's Derived/Test/ToyasCard.lean, 'card_holds'). Laid BY PROGRAM, IN A SANDBOX (cutbox-door.mjs). By AI agents, Wed Nov 11 2026. No macro, syntax, notation, axiom, sorry.
-/
import Derived.Test.YthaolifcglpkdaaGreatDoorRows
import GoSem.ClaimSeven
namespace Go.Proofs.YthaolifcglpkdaaGreatDoor
namespace Rows

/-- THE TIED CARD OF 'pliantlaw21.RegsStraight'. -/
def regsStraightCard : Claim7 := { stood := { row := regsStraightRow, standIns := [], harness := (true, "9c676c79cf6187268d0aaf8d03f648df5663a1a7e68dee59d27ac80132a59bd2"), looks := true }, kinds := [], alts := [], laidByText := true, laidKinds := [.data, .data, .data, .data, .sentinel, .sentinel, .data, .data, .data, .pinned], laidTests := true, laidLooks := .later }
def RegsStraightCardSaid : Prop := Claim7.holds Tryz.pinned (.plain (OpenSpec.ofChange regsStraightSpec)) regsStraightCard

/-- THE TIED CARD OF 'pliantlaw21.RegsTwice'. -/
def regsTwiceCard : Claim7 := { stood := { row := regsTwiceRow, standIns := [], harness := (true, "9c676c79cf6187268d0aaf8d03f648df5663a1a7e68dee59d27ac80132a59bd2"), looks := true }, kinds := [], alts := [], laidByText := true, laidKinds := [.data, .data, .data, .data, .sentinel, .sentinel, .data, .data, .data, .pinned], laidTests := true, laidLooks := .later }
def RegsTwiceCardSaid : Prop := Claim7.holds Tryz.pinned (.plain (OpenSpec.ofChange regsTwiceSpec)) regsTwiceCard

/-- THE TIED CARD OF 'pliantlaw21.RegsCaught'. -/
def regsCaughtCard : Claim7 := { stood := { row := regsCaughtRow, standIns := [], harness := (true, "9c676c79cf6187268d0aaf8d03f648df5663a1a7e68dee59d27ac80132a59bd2"), looks := true }, kinds := [], alts := [], laidByText := true, laidKinds := [.data, .data, .data, .data, .sentinel, .sentinel, .data, .data, .data, .pinned], laidTests := true, laidLooks := .later }
def RegsCaughtCardSaid : Prop := Claim7.holds Tryz.pinned (.plain (OpenSpec.ofChange regsCaughtSpec)) regsCaughtCard

/-- THE SECOND FORM's CARD OF 'pliantlaw21.RegsStraight'. -/
def regsStraightUptoCard : Claim7 := { stood := { row := regsStraightUptoRow, standIns := [], harness := (true, "9c676c79cf6187268d0aaf8d03f648df5663a1a7e68dee59d27ac80132a59bd2"), looks := true }, kinds := [], alts := [], laidByText := true, laidKinds := [.data, .data, .data, .data, .sentinel, .sentinel, .data, .data, .data, .pinned], laidTests := true, laidLooks := .later }
def RegsStraightUptoCardSaid : Prop := Claim7.holds Tryz.pinned (.plain (OpenSpec.upto regsStraightSpec)) regsStraightUptoCard

/-- THE SECOND FORM's CARD OF 'pliantlaw21.RegsTwice'. -/
def regsTwiceUptoCard : Claim7 := { stood := { row := regsTwiceUptoRow, standIns := [], harness := (true, "9c676c79cf6187268d0aaf8d03f648df5663a1a7e68dee59d27ac80132a59bd2"), looks := true }, kinds := [], alts := [], laidByText := true, laidKinds := [.data, .data, .data, .data, .sentinel, .sentinel, .data, .data, .data, .pinned], laidTests := true, laidLooks := .later }
def RegsTwiceUptoCardSaid : Prop := Claim7.holds Tryz.pinned (.plain (OpenSpec.upto regsTwiceSpec)) regsTwiceUptoCard

/-- THE SECOND FORM's CARD OF 'pliantlaw21.RegsCaught'. -/
def regsCaughtUptoCard : Claim7 := { stood := { row := regsCaughtUptoRow, standIns := [], harness := (true, "9c676c79cf6187268d0aaf8d03f648df5663a1a7e68dee59d27ac80132a59bd2"), looks := true }, kinds := [], alts := [], laidByText := true, laidKinds := [.data, .data, .data, .data, .sentinel, .sentinel, .data, .data, .data, .pinned], laidTests := true, laidLooks := .later }
def RegsCaughtUptoCardSaid : Prop := Claim7.holds Tryz.pinned (.plain (OpenSpec.upto regsCaughtSpec)) regsCaughtUptoCard
end Rows
end Go.Proofs.YthaolifcglpkdaaGreatDoor
