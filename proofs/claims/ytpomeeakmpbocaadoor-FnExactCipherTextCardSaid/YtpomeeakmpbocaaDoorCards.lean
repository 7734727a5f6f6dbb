/-
  DERIVED. GIVEN WITH THE SEED: THE CARDS: each row of YtpomeeakmpbocaaDoorRows.lean that lists a variable, with what it lists TIED to the program's text (the seventh form; the later family's looks); each row that meets fmt, with fmt's text TOLD by the authors' own Lean function (tested against real Go, not proved from fmt's source: count such statements apart). THE CARD IS WHAT COUNTS. Prove the row's statement (the work); the ties are given (YtpomeeakmpbocaaDoorTie.lean); close each card by the builder's one call (the guide's Derived/Test/ToyasCard.lean, 'card_holds'). Laid BY PROGRAM, IN A SANDBOX (cutbox-door.mjs). By AI agents, Wed Nov 11 2026. No macro, syntax, notation, axiom, sorry.
-/
import Derived.Test.YtpomeeakmpbocaaDoorRows
import GoSem.ClaimSeven
namespace Go.Proofs.YtpomeeakmpbocaaDoor
namespace Rows

/-- THE TIED CARD OF 'laws.FnExactCipherText'. -/
def fnExactCipherTextCard : Claim7 := { stood := { row := fnExactCipherTextRow, standIns := [], harness := (true, "cca53cf85d65fcf127fce94b2aa8b7f75e8f6166ead663c26ee0dd93c93452b4"), looks := false }, kinds := [], alts := [], laidByText := true, laidKinds := [.data, .data, .data, .data, .pinned], laidTests := true, laidLooks := .later }
def FnExactCipherTextCardSaid : Prop := Claim7.holds Tryd.pinned (.plain (OpenSpec.ofChange fnExactCipherTextSpec)) fnExactCipherTextCard

/-- THE SECOND FORM's CARD OF 'laws.FnExactCipherText'. -/
def fnExactCipherTextUptoCard : Claim7 := { stood := { row := fnExactCipherTextUptoRow, standIns := [], harness := (true, "cca53cf85d65fcf127fce94b2aa8b7f75e8f6166ead663c26ee0dd93c93452b4"), looks := false }, kinds := [], alts := [], laidByText := true, laidKinds := [.data, .data, .data, .data, .pinned], laidTests := true, laidLooks := .later }
def FnExactCipherTextUptoCardSaid : Prop := Claim7.holds Tryd.pinned (.plain (OpenSpec.upto fnExactCipherTextSpec)) fnExactCipherTextUptoCard
end Rows
end Go.Proofs.YtpomeeakmpbocaaDoor
