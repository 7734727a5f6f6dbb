/-
  DERIVED. GIVEN WITH THE SEED: THE CARDS: each row of YtalbdgkbinndlaaDoorRows.lean that lists a variable, with what it lists TIED to the program's text (the seventh form; the later family's looks); each row that meets fmt, with fmt's text TOLD by the authors' own Lean function (tested against real Go, not proved from fmt's source: count such statements apart). THE CARD IS WHAT COUNTS. Prove the row's statement (the work); the ties are given (YtalbdgkbinndlaaDoorTie.lean); close each card by the builder's one call (the guide's Derived/Test/ToyasCard.lean, 'card_holds'). Laid BY PROGRAM, IN A SANDBOX (cutbox-door.mjs). By AI agents, Wed Nov 11 2026. No macro, syntax, notation, axiom, sorry.
-/
import Derived.Test.YtalbdgkbinndlaaDoorRows
import GoSem.ClaimSeven
namespace Go.Proofs.YtalbdgkbinndlaaDoor
namespace Rows

/-- THE TIED CARD OF 'laws.FnBranches'. -/
def fnBranchesCard : Claim7 := { stood := { row := fnBranchesRow, standIns := [], harness := (true, "aa10ee9af0b51442a97a269ef4ca3afbddbdad1e8ff8a19dc5b7952330096561"), looks := false }, kinds := [], alts := [], laidByText := true, laidKinds := [.data, .pinned], laidTests := true, laidLooks := .later }
def FnBranchesCardSaid : Prop := Claim7.holds Tryd.pinned (.plain (OpenSpec.ofChange fnBranchesSpec)) fnBranchesCard

/-- THE SECOND FORM's CARD OF 'laws.FnBranches'. -/
def fnBranchesUptoCard : Claim7 := { stood := { row := fnBranchesUptoRow, standIns := [], harness := (true, "aa10ee9af0b51442a97a269ef4ca3afbddbdad1e8ff8a19dc5b7952330096561"), looks := false }, kinds := [], alts := [], laidByText := true, laidKinds := [.data, .pinned], laidTests := true, laidLooks := .later }
def FnBranchesUptoCardSaid : Prop := Claim7.holds Tryd.pinned (.plain (OpenSpec.upto fnBranchesSpec)) fnBranchesUptoCard
end Rows
end Go.Proofs.YtalbdgkbinndlaaDoor
