/-
  No cell of these rows narrows 'for every input' (looked for: loops, veiled, ifaces, maps, wideKeys, modest, calm, conditions, laid).
  DERIVED. THE GIVEN ROWS OF THIS SEAT. 7 by the template 'for every input the law returns true; each argument reads behind the call as it read before'; 0 by the template 'total and deterministic' (their statements: YtkgiocoiojdgfaaTotals.lean).
  GIVEN WITH THE SEED: the statements are not yours to turn. If you find one false, say at which input.
  Laid BY PROGRAM, IN A SANDBOX (cutbox-rows.mjs): the forced cells as the released guide's own fill.sh prints them over the translation d9dafbff9b28fcdc… (all of the seat's roots in one cut). By AI agents, Wed Nov 11 2026. No macro, syntax, notation, axiom, sorry.
-/
import Derived.Test.YtkgiocoiojdgfaaChecked
import GoSem.Claim
import GoSem.ClaimJoined
import GoSem.ClaimMapViews
import Derived.JoinedTies
import Derived.KernelRfl
namespace Go.Proofs.Ytkgiocoiojdgfaa
/- THE CELL 'sum', in the pinned program and in every row, IS THE sha256 OF THE DUMP (.gsa) THAT YtkgiocoiojdgfaaProg.lean LOADS. Nothing in Lean hashes anything: it is a label: what it is worth is what the hold of that sum in a sandbox is worth. -/
noncomputable def Try.pinned : Pinned := { name := "ytkgiocoiojdgfaa", sum := "d9dafbff9b28fcdcc39eb841c0aeb2d1e1c7d663857d654330959e37cfae5beb", checked := Try.checked }
namespace Rows
def none {H : Type} : Left H := { results := [], args := [] }

/-- 'laws.FnExactPatternsOf': WHATEVER THE INPUT: true; the input reads as it did. -/
def fnExactPatternsOfSpec : ChangeSpec := { name := "fnExactPatternsOf", fn := fun _ => fun
  | [d] => { results := [.lit (.bool true)], args := [d] }
  | _ => none }
def fnExactPatternsOfRow : OpenClaim := { program := "ytkgiocoiojdgfaa", sum := "d9dafbff9b28fcdcc39eb841c0aeb2d1e1c7d663857d654330959e37cfae5beb", func := "loop.example/g01182/laws.FnExactPatternsOf", spec := "fnExactPatternsOf", inPlace := ["internal/bytealg.IndexByte"], apart := false }
def FnExactPatternsOfSaid : Prop := fnExactPatternsOfRow.holds Try.pinned (OpenSpec.ofChange fnExactPatternsOfSpec)

/-- ITS FALSE NEIGHBOUR: 'it returns false'. Refute it at one input. -/
def fnExactPatternsOfWrong : ChangeSpec := { name := "fnExactPatternsOf", fn := fun _ => fun
  | [d] => { results := [.lit (.bool false)], args := [d] }
  | _ => none }
def FnExactPatternsOfWrongFalsely : Prop := fnExactPatternsOfRow.holds Try.pinned (OpenSpec.ofChange fnExactPatternsOfWrong)

/-- 'laws.FnExactLeastActivity': WHATEVER THE INPUT: true; the input reads as it did. -/
def fnExactLeastActivitySpec : ChangeSpec := { name := "fnExactLeastActivity", fn := fun _ => fun
  | [d1, d2] => { results := [.lit (.bool true)], args := [d1, d2] }
  | _ => none }
def fnExactLeastActivityRow : OpenClaim := { program := "ytkgiocoiojdgfaa", sum := "d9dafbff9b28fcdcc39eb841c0aeb2d1e1c7d663857d654330959e37cfae5beb", func := "loop.example/g01182/laws.FnExactLeastActivity", spec := "fnExactLeastActivity", inPlace := ["internal/bytealg.IndexByte"], apart := false }
def FnExactLeastActivitySaid : Prop := fnExactLeastActivityRow.holds Try.pinned (OpenSpec.ofChange fnExactLeastActivitySpec)

/-- ITS FALSE NEIGHBOUR: 'it returns false'. Refute it at one input. -/
def fnExactLeastActivityWrong : ChangeSpec := { name := "fnExactLeastActivity", fn := fun _ => fun
  | [d1, d2] => { results := [.lit (.bool false)], args := [d1, d2] }
  | _ => none }
def FnExactLeastActivityWrongFalsely : Prop := fnExactLeastActivityRow.holds Try.pinned (OpenSpec.ofChange fnExactLeastActivityWrong)

/-- 'laws.FnFields': WHATEVER THE INPUT: true; the input reads as it did. -/
def fnFieldsSpec : ChangeSpec := { name := "fnFields", fn := fun _ => fun
  | [d] => { results := [.lit (.bool true)], args := [d] }
  | _ => none }
def fnFieldsRow : OpenClaim := { program := "ytkgiocoiojdgfaa", sum := "d9dafbff9b28fcdcc39eb841c0aeb2d1e1c7d663857d654330959e37cfae5beb", func := "loop.example/g01182/laws.FnFields", spec := "fnFields", apart := false }
def FnFieldsSaid : Prop := fnFieldsRow.holds Try.pinned (OpenSpec.ofChange fnFieldsSpec)

/-- ITS FALSE NEIGHBOUR: 'it returns false'. Refute it at one input. -/
def fnFieldsWrong : ChangeSpec := { name := "fnFields", fn := fun _ => fun
  | [d] => { results := [.lit (.bool false)], args := [d] }
  | _ => none }
def FnFieldsWrongFalsely : Prop := fnFieldsRow.holds Try.pinned (OpenSpec.ofChange fnFieldsWrong)

/-- 'laws.FnBoxes': WHATEVER THE INPUT: true; the input reads as it did. -/
def fnBoxesSpec : ChangeSpec := { name := "fnBoxes", fn := fun _ => fun
  | [d] => { results := [.lit (.bool true)], args := [d] }
  | _ => none }
def fnBoxesRow : OpenClaim := { program := "ytkgiocoiojdgfaa", sum := "d9dafbff9b28fcdcc39eb841c0aeb2d1e1c7d663857d654330959e37cfae5beb", func := "loop.example/g01182/laws.FnBoxes", spec := "fnBoxes", apart := false }
def FnBoxesSaid : Prop := fnBoxesRow.holds Try.pinned (OpenSpec.ofChange fnBoxesSpec)

/-- ITS FALSE NEIGHBOUR: 'it returns false'. Refute it at one input. -/
def fnBoxesWrong : ChangeSpec := { name := "fnBoxes", fn := fun _ => fun
  | [d] => { results := [.lit (.bool false)], args := [d] }
  | _ => none }
def FnBoxesWrongFalsely : Prop := fnBoxesRow.holds Try.pinned (OpenSpec.ofChange fnBoxesWrong)

/-- 'laws.FnFieldEquations': WHATEVER THE INPUT: true; the input reads as it did. -/
def fnFieldEquationsSpec : ChangeSpec := { name := "fnFieldEquations", fn := fun _ => fun
  | [d] => { results := [.lit (.bool true)], args := [d] }
  | _ => none }
def fnFieldEquationsRow : OpenClaim := { program := "ytkgiocoiojdgfaa", sum := "d9dafbff9b28fcdcc39eb841c0aeb2d1e1c7d663857d654330959e37cfae5beb", func := "loop.example/g01182/laws.FnFieldEquations", spec := "fnFieldEquations", inPlace := ["internal/bytealg.IndexByte"], unfollowed := true, recurses := true, apart := false }
def FnFieldEquationsSaid : Prop := fnFieldEquationsRow.holds Try.pinned (OpenSpec.ofChange fnFieldEquationsSpec)

/-- ITS FALSE NEIGHBOUR: 'it returns false'. Refute it at one input. -/
def fnFieldEquationsWrong : ChangeSpec := { name := "fnFieldEquations", fn := fun _ => fun
  | [d] => { results := [.lit (.bool false)], args := [d] }
  | _ => none }
def FnFieldEquationsWrongFalsely : Prop := fnFieldEquationsRow.holds Try.pinned (OpenSpec.ofChange fnFieldEquationsWrong)

/-- 'laws.FnMatrices': WHATEVER THE INPUT: true; the input reads as it did. -/
def fnMatricesSpec : ChangeSpec := { name := "fnMatrices", fn := fun _ => fun
  | [d] => { results := [.lit (.bool true)], args := [d] }
  | _ => none }
def fnMatricesRow : OpenClaim := { program := "ytkgiocoiojdgfaa", sum := "d9dafbff9b28fcdcc39eb841c0aeb2d1e1c7d663857d654330959e37cfae5beb", func := "loop.example/g01182/laws.FnMatrices", spec := "fnMatrices", unfollowed := true, recurses := true, apart := false }
def FnMatricesSaid : Prop := fnMatricesRow.holds Try.pinned (OpenSpec.ofChange fnMatricesSpec)

/-- ITS FALSE NEIGHBOUR: 'it returns false'. Refute it at one input. -/
def fnMatricesWrong : ChangeSpec := { name := "fnMatrices", fn := fun _ => fun
  | [d] => { results := [.lit (.bool false)], args := [d] }
  | _ => none }
def FnMatricesWrongFalsely : Prop := fnMatricesRow.holds Try.pinned (OpenSpec.ofChange fnMatricesWrong)

/-- 'laws.FnPlaces': WHATEVER THE INPUT: true; the input reads as it did. -/
def fnPlacesSpec : ChangeSpec := { name := "fnPlaces", fn := fun _ => fun
  | [d] => { results := [.lit (.bool true)], args := [d] }
  | _ => none }
def fnPlacesRow : OpenClaim := { program := "ytkgiocoiojdgfaa", sum := "d9dafbff9b28fcdcc39eb841c0aeb2d1e1c7d663857d654330959e37cfae5beb", func := "loop.example/g01182/laws.FnPlaces", spec := "fnPlaces", inPlace := ["internal/bytealg.IndexByte"], apart := false }
def FnPlacesSaid : Prop := fnPlacesRow.holds Try.pinned (OpenSpec.ofChange fnPlacesSpec)

/-- ITS FALSE NEIGHBOUR: 'it returns false'. Refute it at one input. -/
def fnPlacesWrong : ChangeSpec := { name := "fnPlaces", fn := fun _ => fun
  | [d] => { results := [.lit (.bool false)], args := [d] }
  | _ => none }
def FnPlacesWrongFalsely : Prop := fnPlacesRow.holds Try.pinned (OpenSpec.ofChange fnPlacesWrong)

/- THE SECOND FORM. 'bulk': how many values and letters a reading holds, each counted each time it is reached (what is shared counts as often as it is met; a slice's spare places count too). A statement '..UptoSaid' is the law's where the arguments, and the package variables that the reading takes, are together of bulk at most 1048576: NARROWER than '..Said'. Prove '..Said' where nothing that the law and all that it calls make is longer than what came in: it says more and counts as full. Else prove '..UptoSaid'. A law counts once. -/
mutual
def uptoBulk {H : Type} : DataW H → Nat
  | .lit (.string bytes) => bytes.length + 1
  | .lit _ => 1
  | .nil => 1
  | .ptr d => uptoBulk d + 1
  | .slice elems spare => uptoBulkAll elems + uptoBulkAll spare + 1
  | .agg parts => uptoBulkAll parts + 1
  | .iface _ d => uptoBulk d + 1
  | .map entries => uptoBulkEntries entries + 1
  | .held _ => 1
def uptoBulkAll {H : Type} : List (DataW H) → Nat
  | [] => 0
  | d :: r => uptoBulk d + uptoBulkAll r
def uptoBulkEntries {H : Type} : List (Lit × DataW H) → Nat
  | [] => 0
  | x :: r => uptoBulkEntry x + uptoBulkEntries r
def uptoBulkEntry {H : Type} : Lit × DataW H → Nat
  | (.string bytes, d) => bytes.length + uptoBulk d + 1
  | (_, d) => uptoBulk d + 1
 end
def uptoSmall : (H : Type) → List (DataW H) → Bool := fun _ ds => decide (uptoBulkAll ds ≤ 1048576)
def OpenSpec.upto (s : _root_.Go.ChangeSpec) : _root_.Go.OpenSpec := { _root_.Go.OpenSpec.ofChange s with cond := some uptoSmall }

/-- 'laws.FnExactPatternsOf', WHERE WHAT IT READS IS OF BULK AT MOST 1048576: true; the input reads as it did. -/
def fnExactPatternsOfUptoRow : OpenClaim := { program := "ytkgiocoiojdgfaa", sum := "d9dafbff9b28fcdcc39eb841c0aeb2d1e1c7d663857d654330959e37cfae5beb", func := "loop.example/g01182/laws.FnExactPatternsOf", spec := "fnExactPatternsOf", inPlace := ["internal/bytealg.IndexByte"], apart := false, narrowed := true }
def FnExactPatternsOfUptoSaid : Prop := fnExactPatternsOfUptoRow.holds Try.pinned (OpenSpec.upto fnExactPatternsOfSpec)

/-- 'laws.FnExactLeastActivity', WHERE WHAT IT READS IS OF BULK AT MOST 1048576: true; the input reads as it did. -/
def fnExactLeastActivityUptoRow : OpenClaim := { program := "ytkgiocoiojdgfaa", sum := "d9dafbff9b28fcdcc39eb841c0aeb2d1e1c7d663857d654330959e37cfae5beb", func := "loop.example/g01182/laws.FnExactLeastActivity", spec := "fnExactLeastActivity", inPlace := ["internal/bytealg.IndexByte"], apart := false, narrowed := true }
def FnExactLeastActivityUptoSaid : Prop := fnExactLeastActivityUptoRow.holds Try.pinned (OpenSpec.upto fnExactLeastActivitySpec)

/-- 'laws.FnFields', WHERE WHAT IT READS IS OF BULK AT MOST 1048576: true; the input reads as it did. -/
def fnFieldsUptoRow : OpenClaim := { program := "ytkgiocoiojdgfaa", sum := "d9dafbff9b28fcdcc39eb841c0aeb2d1e1c7d663857d654330959e37cfae5beb", func := "loop.example/g01182/laws.FnFields", spec := "fnFields", apart := false, narrowed := true }
def FnFieldsUptoSaid : Prop := fnFieldsUptoRow.holds Try.pinned (OpenSpec.upto fnFieldsSpec)

/-- 'laws.FnBoxes', WHERE WHAT IT READS IS OF BULK AT MOST 1048576: true; the input reads as it did. -/
def fnBoxesUptoRow : OpenClaim := { program := "ytkgiocoiojdgfaa", sum := "d9dafbff9b28fcdcc39eb841c0aeb2d1e1c7d663857d654330959e37cfae5beb", func := "loop.example/g01182/laws.FnBoxes", spec := "fnBoxes", apart := false, narrowed := true }
def FnBoxesUptoSaid : Prop := fnBoxesUptoRow.holds Try.pinned (OpenSpec.upto fnBoxesSpec)

/-- 'laws.FnFieldEquations', WHERE WHAT IT READS IS OF BULK AT MOST 1048576: true; the input reads as it did. -/
def fnFieldEquationsUptoRow : OpenClaim := { program := "ytkgiocoiojdgfaa", sum := "d9dafbff9b28fcdcc39eb841c0aeb2d1e1c7d663857d654330959e37cfae5beb", func := "loop.example/g01182/laws.FnFieldEquations", spec := "fnFieldEquations", inPlace := ["internal/bytealg.IndexByte"], unfollowed := true, recurses := true, apart := false, narrowed := true }
def FnFieldEquationsUptoSaid : Prop := fnFieldEquationsUptoRow.holds Try.pinned (OpenSpec.upto fnFieldEquationsSpec)

/-- 'laws.FnMatrices', WHERE WHAT IT READS IS OF BULK AT MOST 1048576: true; the input reads as it did. -/
def fnMatricesUptoRow : OpenClaim := { program := "ytkgiocoiojdgfaa", sum := "d9dafbff9b28fcdcc39eb841c0aeb2d1e1c7d663857d654330959e37cfae5beb", func := "loop.example/g01182/laws.FnMatrices", spec := "fnMatrices", unfollowed := true, recurses := true, apart := false, narrowed := true }
def FnMatricesUptoSaid : Prop := fnMatricesUptoRow.holds Try.pinned (OpenSpec.upto fnMatricesSpec)

/-- 'laws.FnPlaces', WHERE WHAT IT READS IS OF BULK AT MOST 1048576: true; the input reads as it did. -/
def fnPlacesUptoRow : OpenClaim := { program := "ytkgiocoiojdgfaa", sum := "d9dafbff9b28fcdcc39eb841c0aeb2d1e1c7d663857d654330959e37cfae5beb", func := "loop.example/g01182/laws.FnPlaces", spec := "fnPlaces", inPlace := ["internal/bytealg.IndexByte"], apart := false, narrowed := true }
def FnPlacesUptoSaid : Prop := fnPlacesUptoRow.holds Try.pinned (OpenSpec.upto fnPlacesSpec)

end Rows
end Go.Proofs.Ytkgiocoiojdgfaa
