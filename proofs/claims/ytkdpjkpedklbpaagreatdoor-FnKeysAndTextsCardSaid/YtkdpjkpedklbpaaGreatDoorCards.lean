/-
  DERIVED. GIVEN WITH THE SEED: THE CARDS: each row of YtkdpjkpedklbpaaGreatDoorRows.lean that lists a variable, with what it lists TIED to the program's text (the seventh form; the later family's looks); each row that meets fmt, with fmt's text TOLD by the authors' own Lean function (tested against real Go, not proved from fmt's source: count such statements apart). THE CARD IS WHAT COUNTS. Prove the row's statement (the work); the ties are given (YtkdpjkpedklbpaaGreatDoorTie.lean); close each card by the builder's one call (the guide's Derived/Test/ToyasCard.lean, 'card_holds'). Laid BY PROGRAM, IN A SANDBOX (cutbox-door.mjs). By AI agents, Wed Nov 11 2026. No macro, syntax, notation, axiom, sorry.
-/
import Derived.Test.YtkdpjkpedklbpaaGreatDoorRows
import GoSem.ClaimSeven
namespace Go.Proofs.YtkdpjkpedklbpaaGreatDoor
namespace Rows

/-- THE TIED CARD OF 'laws.FnKeysAndTexts'. -/
def fnKeysAndTextsCard : Claim7 := { stood := { row := fnKeysAndTextsRow, standIns := [], harness := (true, "5789436faa4cdd38c8ab181f44174d3de402b4fa21748693501f9af819aaed17"), looks := true }, kinds := [], alts := [], laidByText := true, laidKinds := [.data, .data, .data, .data, .sentinel, .sentinel, .pinned], laidTests := true, laidLooks := .later }
def FnKeysAndTextsCardSaid : Prop := Claim7.holds Tryz.pinned (.plain (OpenSpec.ofChange fnKeysAndTextsSpec)) fnKeysAndTextsCard

/-- THE SECOND FORM's CARD OF 'laws.FnKeysAndTexts'. -/
def fnKeysAndTextsUptoCard : Claim7 := { stood := { row := fnKeysAndTextsUptoRow, standIns := [], harness := (true, "5789436faa4cdd38c8ab181f44174d3de402b4fa21748693501f9af819aaed17"), looks := true }, kinds := [], alts := [], laidByText := true, laidKinds := [.data, .data, .data, .data, .sentinel, .sentinel, .pinned], laidTests := true, laidLooks := .later }
def FnKeysAndTextsUptoCardSaid : Prop := Claim7.holds Tryz.pinned (.plain (OpenSpec.upto fnKeysAndTextsSpec)) fnKeysAndTextsUptoCard
end Rows
end Go.Proofs.YtkdpjkpedklbpaaGreatDoor
