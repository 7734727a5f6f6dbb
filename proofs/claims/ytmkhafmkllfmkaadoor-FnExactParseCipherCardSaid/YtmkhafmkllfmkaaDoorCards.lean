/-
  DERIVED. GIVEN WITH THE SEED: THE CARDS: each row of YtmkhafmkllfmkaaDoorRows.lean that lists a variable, with what it lists TIED to the program's text (the seventh form; the later family's looks); each row that meets fmt, with fmt's text TOLD by the authors' own Lean function (tested against real Go, not proved from fmt's source: count such statements apart). THE CARD IS WHAT COUNTS. Prove the row's statement (the work); the ties are given (YtmkhafmkllfmkaaDoorTie.lean); close each card by the builder's one call (the guide's Derived/Test/ToyasCard.lean, 'card_holds'). Laid BY PROGRAM, IN A SANDBOX (cutbox-door.mjs). By AI agents, Wed Nov 11 2026. No macro, syntax, notation, axiom, sorry.
-/
import Derived.Test.YtmkhafmkllfmkaaDoorRows
import GoSem.ClaimSeven
namespace Go.Proofs.YtmkhafmkllfmkaaDoor
namespace Rows

/-- THE TIED CARD OF 'laws.FnExactParseCipher'. -/
def fnExactParseCipherCard : Claim7 := { stood := { row := fnExactParseCipherRow, standIns := [], harness := (true, "72758a02cd15802e40fe65b240f698a1a39e0e494e77f73a14a2db8ffdb01866"), looks := true }, kinds := [], alts := [], laidByText := true, laidKinds := [.data, .data, .data, .data, .sentinel, .sentinel, .pinned], laidTests := true, laidLooks := .later }
def FnExactParseCipherCardSaid : Prop := Claim7.holds Tryd.pinned (.plain (OpenSpec.ofChange fnExactParseCipherSpec)) fnExactParseCipherCard

/-- THE SECOND FORM's CARD OF 'laws.FnExactParseCipher'. -/
def fnExactParseCipherUptoCard : Claim7 := { stood := { row := fnExactParseCipherUptoRow, standIns := [], harness := (true, "72758a02cd15802e40fe65b240f698a1a39e0e494e77f73a14a2db8ffdb01866"), looks := true }, kinds := [], alts := [], laidByText := true, laidKinds := [.data, .data, .data, .data, .sentinel, .sentinel, .pinned], laidTests := true, laidLooks := .later }
def FnExactParseCipherUptoCardSaid : Prop := Claim7.holds Tryd.pinned (.plain (OpenSpec.upto fnExactParseCipherSpec)) fnExactParseCipherUptoCard
end Rows
end Go.Proofs.YtmkhafmkllfmkaaDoor
