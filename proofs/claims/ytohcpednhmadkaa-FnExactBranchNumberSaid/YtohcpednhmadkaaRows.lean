/-
  No cell of these rows narrows 'for every input' (looked for: loops, veiled, ifaces, maps, wideKeys, modest, calm, conditions, laid).
  DERIVED. THE GIVEN ROWS OF THIS SEAT. 12 by the template 'for every input the law returns true; each argument reads behind the call as it read before'; 0 by the template 'total and deterministic' (their statements: YtohcpednhmadkaaTotals.lean).
  GIVEN WITH THE SEED: the statements are not yours to turn. If you find one false, say at which input.
  Laid BY PROGRAM, IN A SANDBOX (cutbox-rows.mjs): the forced cells as the released guide's own fill.sh prints them over the translation 5c4942bf4c5b138c… (all of the seat's roots in one cut). By AI agents, Wed Nov 11 2026. No macro, syntax, notation, axiom, sorry.
-/
import Derived.Test.YtohcpednhmadkaaChecked
import GoSem.Claim
import GoSem.ClaimJoined
import GoSem.ClaimMapViews
import Derived.JoinedTies
import Derived.KernelRfl
namespace Go.Proofs.Ytohcpednhmadkaa
/- THE CELL 'sum', in the pinned program and in every row, IS THE sha256 OF THE DUMP (.gsa) THAT YtohcpednhmadkaaProg.lean LOADS. Nothing in Lean hashes anything: it is a label: what it is worth is what the hold of that sum in a sandbox is worth. -/
noncomputable def Try.pinned : Pinned := { name := "ytohcpednhmadkaa", sum := "5c4942bf4c5b138c0ce77b7dbc7ab0cf2a124d763b3ad0c3ab886aaafb1d04f4", checked := Try.checked }
namespace Rows
def none {H : Type} : Left H := { results := [], args := [] }

/-- 'laws.FnExactIsNetwork': WHATEVER THE INPUT: true; the input reads as it did. -/
def fnExactIsNetworkSpec : ChangeSpec := { name := "fnExactIsNetwork", fn := fun _ => fun
  | [d] => { results := [.lit (.bool true)], args := [d] }
  | _ => none }
def fnExactIsNetworkRow : OpenClaim := { program := "ytohcpednhmadkaa", sum := "5c4942bf4c5b138c0ce77b7dbc7ab0cf2a124d763b3ad0c3ab886aaafb1d04f4", func := "loop.example/g01182/laws.FnExactIsNetwork", spec := "fnExactIsNetwork", apart := false }
def FnExactIsNetworkSaid : Prop := fnExactIsNetworkRow.holds Try.pinned (OpenSpec.ofChange fnExactIsNetworkSpec)

/-- ITS FALSE NEIGHBOUR: 'it returns false'. Refute it at one input. -/
def fnExactIsNetworkWrong : ChangeSpec := { name := "fnExactIsNetwork", fn := fun _ => fun
  | [d] => { results := [.lit (.bool false)], args := [d] }
  | _ => none }
def FnExactIsNetworkWrongFalsely : Prop := fnExactIsNetworkRow.holds Try.pinned (OpenSpec.ofChange fnExactIsNetworkWrong)

/-- 'laws.FnExactOrderOfMatrix': WHATEVER THE INPUT: true; the input reads as it did. -/
def fnExactOrderOfMatrixSpec : ChangeSpec := { name := "fnExactOrderOfMatrix", fn := fun _ => fun
  | [d1, d2] => { results := [.lit (.bool true)], args := [d1, d2] }
  | _ => none }
def fnExactOrderOfMatrixRow : OpenClaim := { program := "ytohcpednhmadkaa", sum := "5c4942bf4c5b138c0ce77b7dbc7ab0cf2a124d763b3ad0c3ab886aaafb1d04f4", func := "loop.example/g01182/laws.FnExactOrderOfMatrix", spec := "fnExactOrderOfMatrix", apart := false }
def FnExactOrderOfMatrixSaid : Prop := fnExactOrderOfMatrixRow.holds Try.pinned (OpenSpec.ofChange fnExactOrderOfMatrixSpec)

/-- ITS FALSE NEIGHBOUR: 'it returns false'. Refute it at one input. -/
def fnExactOrderOfMatrixWrong : ChangeSpec := { name := "fnExactOrderOfMatrix", fn := fun _ => fun
  | [d1, d2] => { results := [.lit (.bool false)], args := [d1, d2] }
  | _ => none }
def FnExactOrderOfMatrixWrongFalsely : Prop := fnExactOrderOfMatrixRow.holds Try.pinned (OpenSpec.ofChange fnExactOrderOfMatrixWrong)

/-- 'laws.FnExactBranchNumber': WHATEVER THE INPUT: true; the input reads as it did. -/
def fnExactBranchNumberSpec : ChangeSpec := { name := "fnExactBranchNumber", fn := fun _ => fun
  | [d1, d2] => { results := [.lit (.bool true)], args := [d1, d2] }
  | _ => none }
def fnExactBranchNumberRow : OpenClaim := { program := "ytohcpednhmadkaa", sum := "5c4942bf4c5b138c0ce77b7dbc7ab0cf2a124d763b3ad0c3ab886aaafb1d04f4", func := "loop.example/g01182/laws.FnExactBranchNumber", spec := "fnExactBranchNumber", apart := false }
def FnExactBranchNumberSaid : Prop := fnExactBranchNumberRow.holds Try.pinned (OpenSpec.ofChange fnExactBranchNumberSpec)

/-- ITS FALSE NEIGHBOUR: 'it returns false'. Refute it at one input. -/
def fnExactBranchNumberWrong : ChangeSpec := { name := "fnExactBranchNumber", fn := fun _ => fun
  | [d1, d2] => { results := [.lit (.bool false)], args := [d1, d2] }
  | _ => none }
def FnExactBranchNumberWrongFalsely : Prop := fnExactBranchNumberRow.holds Try.pinned (OpenSpec.ofChange fnExactBranchNumberWrong)

/-- 'laws.FnExactIsCipher': WHATEVER THE INPUT: true; the input reads as it did. -/
def fnExactIsCipherSpec : ChangeSpec := { name := "fnExactIsCipher", fn := fun _ => fun
  | [d] => { results := [.lit (.bool true)], args := [d] }
  | _ => none }
def fnExactIsCipherRow : OpenClaim := { program := "ytohcpednhmadkaa", sum := "5c4942bf4c5b138c0ce77b7dbc7ab0cf2a124d763b3ad0c3ab886aaafb1d04f4", func := "loop.example/g01182/laws.FnExactIsCipher", spec := "fnExactIsCipher", inPlace := ["internal/bytealg.IndexByte"], apart := false }
def FnExactIsCipherSaid : Prop := fnExactIsCipherRow.holds Try.pinned (OpenSpec.ofChange fnExactIsCipherSpec)

/-- ITS FALSE NEIGHBOUR: 'it returns false'. Refute it at one input. -/
def fnExactIsCipherWrong : ChangeSpec := { name := "fnExactIsCipher", fn := fun _ => fun
  | [d] => { results := [.lit (.bool false)], args := [d] }
  | _ => none }
def FnExactIsCipherWrongFalsely : Prop := fnExactIsCipherRow.holds Try.pinned (OpenSpec.ofChange fnExactIsCipherWrong)

/-- 'laws.FnExactKeysOfNetwork': WHATEVER THE INPUT: true; the input reads as it did. -/
def fnExactKeysOfNetworkSpec : ChangeSpec := { name := "fnExactKeysOfNetwork", fn := fun _ => fun
  | [d1, d2] => { results := [.lit (.bool true)], args := [d1, d2] }
  | _ => none }
def fnExactKeysOfNetworkRow : OpenClaim := { program := "ytohcpednhmadkaa", sum := "5c4942bf4c5b138c0ce77b7dbc7ab0cf2a124d763b3ad0c3ab886aaafb1d04f4", func := "loop.example/g01182/laws.FnExactKeysOfNetwork", spec := "fnExactKeysOfNetwork", apart := false }
def FnExactKeysOfNetworkSaid : Prop := fnExactKeysOfNetworkRow.holds Try.pinned (OpenSpec.ofChange fnExactKeysOfNetworkSpec)

/-- ITS FALSE NEIGHBOUR: 'it returns false'. Refute it at one input. -/
def fnExactKeysOfNetworkWrong : ChangeSpec := { name := "fnExactKeysOfNetwork", fn := fun _ => fun
  | [d1, d2] => { results := [.lit (.bool false)], args := [d1, d2] }
  | _ => none }
def FnExactKeysOfNetworkWrongFalsely : Prop := fnExactKeysOfNetworkRow.holds Try.pinned (OpenSpec.ofChange fnExactKeysOfNetworkWrong)

/-- 'laws.FnExactRoundFunction': WHATEVER THE INPUT: true; the input reads as it did. -/
def fnExactRoundFunctionSpec : ChangeSpec := { name := "fnExactRoundFunction", fn := fun _ => fun
  | [d1, d2, d3] => { results := [.lit (.bool true)], args := [d1, d2, d3] }
  | _ => none }
def fnExactRoundFunctionRow : OpenClaim := { program := "ytohcpednhmadkaa", sum := "5c4942bf4c5b138c0ce77b7dbc7ab0cf2a124d763b3ad0c3ab886aaafb1d04f4", func := "loop.example/g01182/laws.FnExactRoundFunction", spec := "fnExactRoundFunction", apart := false }
def FnExactRoundFunctionSaid : Prop := fnExactRoundFunctionRow.holds Try.pinned (OpenSpec.ofChange fnExactRoundFunctionSpec)

/-- ITS FALSE NEIGHBOUR: 'it returns false'. Refute it at one input. -/
def fnExactRoundFunctionWrong : ChangeSpec := { name := "fnExactRoundFunction", fn := fun _ => fun
  | [d1, d2, d3] => { results := [.lit (.bool false)], args := [d1, d2, d3] }
  | _ => none }
def FnExactRoundFunctionWrongFalsely : Prop := fnExactRoundFunctionRow.holds Try.pinned (OpenSpec.ofChange fnExactRoundFunctionWrong)

/-- 'laws.FnExactInverseFunction': WHATEVER THE INPUT: true; the input reads as it did. -/
def fnExactInverseFunctionSpec : ChangeSpec := { name := "fnExactInverseFunction", fn := fun _ => fun
  | [d1, d2, d3] => { results := [.lit (.bool true)], args := [d1, d2, d3] }
  | _ => none }
def fnExactInverseFunctionRow : OpenClaim := { program := "ytohcpednhmadkaa", sum := "5c4942bf4c5b138c0ce77b7dbc7ab0cf2a124d763b3ad0c3ab886aaafb1d04f4", func := "loop.example/g01182/laws.FnExactInverseFunction", spec := "fnExactInverseFunction", apart := false }
def FnExactInverseFunctionSaid : Prop := fnExactInverseFunctionRow.holds Try.pinned (OpenSpec.ofChange fnExactInverseFunctionSpec)

/-- ITS FALSE NEIGHBOUR: 'it returns false'. Refute it at one input. -/
def fnExactInverseFunctionWrong : ChangeSpec := { name := "fnExactInverseFunction", fn := fun _ => fun
  | [d1, d2, d3] => { results := [.lit (.bool false)], args := [d1, d2, d3] }
  | _ => none }
def FnExactInverseFunctionWrongFalsely : Prop := fnExactInverseFunctionRow.holds Try.pinned (OpenSpec.ofChange fnExactInverseFunctionWrong)

/-- 'laws.FnExactKeyBefore': WHATEVER THE INPUT: true; the input reads as it did. -/
def fnExactKeyBeforeSpec : ChangeSpec := { name := "fnExactKeyBefore", fn := fun _ => fun
  | [d1, d2, d3] => { results := [.lit (.bool true)], args := [d1, d2, d3] }
  | _ => none }
def fnExactKeyBeforeRow : OpenClaim := { program := "ytohcpednhmadkaa", sum := "5c4942bf4c5b138c0ce77b7dbc7ab0cf2a124d763b3ad0c3ab886aaafb1d04f4", func := "loop.example/g01182/laws.FnExactKeyBefore", spec := "fnExactKeyBefore", inPlace := ["internal/bytealg.IndexByte"], apart := false }
def FnExactKeyBeforeSaid : Prop := fnExactKeyBeforeRow.holds Try.pinned (OpenSpec.ofChange fnExactKeyBeforeSpec)

/-- ITS FALSE NEIGHBOUR: 'it returns false'. Refute it at one input. -/
def fnExactKeyBeforeWrong : ChangeSpec := { name := "fnExactKeyBefore", fn := fun _ => fun
  | [d1, d2, d3] => { results := [.lit (.bool false)], args := [d1, d2, d3] }
  | _ => none }
def FnExactKeyBeforeWrongFalsely : Prop := fnExactKeyBeforeRow.holds Try.pinned (OpenSpec.ofChange fnExactKeyBeforeWrong)

/-- 'laws.FnExactLayerOf': WHATEVER THE INPUT: true; the input reads as it did. -/
def fnExactLayerOfSpec : ChangeSpec := { name := "fnExactLayerOf", fn := fun _ => fun
  | [d1, d2, d3] => { results := [.lit (.bool true)], args := [d1, d2, d3] }
  | _ => none }
def fnExactLayerOfRow : OpenClaim := { program := "ytohcpednhmadkaa", sum := "5c4942bf4c5b138c0ce77b7dbc7ab0cf2a124d763b3ad0c3ab886aaafb1d04f4", func := "loop.example/g01182/laws.FnExactLayerOf", spec := "fnExactLayerOf", inPlace := ["internal/bytealg.IndexByte"], apart := false }
def FnExactLayerOfSaid : Prop := fnExactLayerOfRow.holds Try.pinned (OpenSpec.ofChange fnExactLayerOfSpec)

/-- ITS FALSE NEIGHBOUR: 'it returns false'. Refute it at one input. -/
def fnExactLayerOfWrong : ChangeSpec := { name := "fnExactLayerOf", fn := fun _ => fun
  | [d1, d2, d3] => { results := [.lit (.bool false)], args := [d1, d2, d3] }
  | _ => none }
def FnExactLayerOfWrongFalsely : Prop := fnExactLayerOfRow.holds Try.pinned (OpenSpec.ofChange fnExactLayerOfWrong)

/-- 'laws.FnExactBeforeLayer': WHATEVER THE INPUT: true; the input reads as it did. -/
def fnExactBeforeLayerSpec : ChangeSpec := { name := "fnExactBeforeLayer", fn := fun _ => fun
  | [d1, d2, d3] => { results := [.lit (.bool true)], args := [d1, d2, d3] }
  | _ => none }
def fnExactBeforeLayerRow : OpenClaim := { program := "ytohcpednhmadkaa", sum := "5c4942bf4c5b138c0ce77b7dbc7ab0cf2a124d763b3ad0c3ab886aaafb1d04f4", func := "loop.example/g01182/laws.FnExactBeforeLayer", spec := "fnExactBeforeLayer", inPlace := ["internal/bytealg.IndexByte"], apart := false }
def FnExactBeforeLayerSaid : Prop := fnExactBeforeLayerRow.holds Try.pinned (OpenSpec.ofChange fnExactBeforeLayerSpec)

/-- ITS FALSE NEIGHBOUR: 'it returns false'. Refute it at one input. -/
def fnExactBeforeLayerWrong : ChangeSpec := { name := "fnExactBeforeLayer", fn := fun _ => fun
  | [d1, d2, d3] => { results := [.lit (.bool false)], args := [d1, d2, d3] }
  | _ => none }
def FnExactBeforeLayerWrongFalsely : Prop := fnExactBeforeLayerRow.holds Try.pinned (OpenSpec.ofChange fnExactBeforeLayerWrong)

/-- 'laws.FnExactKeysOfRounds': WHATEVER THE INPUT: true; the input reads as it did. -/
def fnExactKeysOfRoundsSpec : ChangeSpec := { name := "fnExactKeysOfRounds", fn := fun _ => fun
  | [d1, d2] => { results := [.lit (.bool true)], args := [d1, d2] }
  | _ => none }
def fnExactKeysOfRoundsRow : OpenClaim := { program := "ytohcpednhmadkaa", sum := "5c4942bf4c5b138c0ce77b7dbc7ab0cf2a124d763b3ad0c3ab886aaafb1d04f4", func := "loop.example/g01182/laws.FnExactKeysOfRounds", spec := "fnExactKeysOfRounds", inPlace := ["internal/bytealg.IndexByte"], apart := false }
def FnExactKeysOfRoundsSaid : Prop := fnExactKeysOfRoundsRow.holds Try.pinned (OpenSpec.ofChange fnExactKeysOfRoundsSpec)

/-- ITS FALSE NEIGHBOUR: 'it returns false'. Refute it at one input. -/
def fnExactKeysOfRoundsWrong : ChangeSpec := { name := "fnExactKeysOfRounds", fn := fun _ => fun
  | [d1, d2] => { results := [.lit (.bool false)], args := [d1, d2] }
  | _ => none }
def FnExactKeysOfRoundsWrongFalsely : Prop := fnExactKeysOfRoundsRow.holds Try.pinned (OpenSpec.ofChange fnExactKeysOfRoundsWrong)

/-- 'laws.FnExactIsSlid': WHATEVER THE INPUT: true; the input reads as it did. -/
def fnExactIsSlidSpec : ChangeSpec := { name := "fnExactIsSlid", fn := fun _ => fun
  | [d1, d2, d3, d4] => { results := [.lit (.bool true)], args := [d1, d2, d3, d4] }
  | _ => none }
def fnExactIsSlidRow : OpenClaim := { program := "ytohcpednhmadkaa", sum := "5c4942bf4c5b138c0ce77b7dbc7ab0cf2a124d763b3ad0c3ab886aaafb1d04f4", func := "loop.example/g01182/laws.FnExactIsSlid", spec := "fnExactIsSlid", apart := false }
def FnExactIsSlidSaid : Prop := fnExactIsSlidRow.holds Try.pinned (OpenSpec.ofChange fnExactIsSlidSpec)

/-- ITS FALSE NEIGHBOUR: 'it returns false'. Refute it at one input. -/
def fnExactIsSlidWrong : ChangeSpec := { name := "fnExactIsSlid", fn := fun _ => fun
  | [d1, d2, d3, d4] => { results := [.lit (.bool false)], args := [d1, d2, d3, d4] }
  | _ => none }
def FnExactIsSlidWrongFalsely : Prop := fnExactIsSlidRow.holds Try.pinned (OpenSpec.ofChange fnExactIsSlidWrong)

/- THE SECOND FORM. 'bulk': how many values and letters a reading holds, each counted each time it is reached (what is shared counts as often as it is met; a slice's spare places count too). A statement '..UptoSaid' is the law's where the arguments, and the package variables that the reading takes, are together of bulk at most 1048576: NARROWER than '..Said'. Prove '..Said' where nothing that the law and all that it calls make is longer than what came in: it says more and counts as full. Else prove '..UptoSaid'. A law counts once. -/
mutual
def uptoBulk {H : Type} : DataW H → Nat
  | .lit (.string bytes) => bytes.length + 1
  | .lit _ => 1
  | .nil => 1
  | .ptr d => uptoBulk d + 1
  | .slice elems spare => uptoBulkAll elems + uptoBulkAll spare + 1
  | .agg parts => uptoBulkAll parts + 1
  | .iface _ d => uptoBulk d + 1
  | .map entries => uptoBulkEntries entries + 1
  | .held _ => 1
def uptoBulkAll {H : Type} : List (DataW H) → Nat
  | [] => 0
  | d :: r => uptoBulk d + uptoBulkAll r
def uptoBulkEntries {H : Type} : List (Lit × DataW H) → Nat
  | [] => 0
  | x :: r => uptoBulkEntry x + uptoBulkEntries r
def uptoBulkEntry {H : Type} : Lit × DataW H → Nat
  | (.string bytes, d) => bytes.length + uptoBulk d + 1
  | (_, d) => uptoBulk d + 1
 end
def uptoSmall : (H : Type) → List (DataW H) → Bool := fun _ ds => decide (uptoBulkAll ds ≤ 1048576)
def OpenSpec.upto (s : _root_.Go.ChangeSpec) : _root_.Go.OpenSpec := { _root_.Go.OpenSpec.ofChange s with cond := some uptoSmall }

/-- 'laws.FnExactIsNetwork', WHERE WHAT IT READS IS OF BULK AT MOST 1048576: true; the input reads as it did. -/
def fnExactIsNetworkUptoRow : OpenClaim := { program := "ytohcpednhmadkaa", sum := "5c4942bf4c5b138c0ce77b7dbc7ab0cf2a124d763b3ad0c3ab886aaafb1d04f4", func := "loop.example/g01182/laws.FnExactIsNetwork", spec := "fnExactIsNetwork", apart := false, narrowed := true }
def FnExactIsNetworkUptoSaid : Prop := fnExactIsNetworkUptoRow.holds Try.pinned (OpenSpec.upto fnExactIsNetworkSpec)

/-- 'laws.FnExactOrderOfMatrix', WHERE WHAT IT READS IS OF BULK AT MOST 1048576: true; the input reads as it did. -/
def fnExactOrderOfMatrixUptoRow : OpenClaim := { program := "ytohcpednhmadkaa", sum := "5c4942bf4c5b138c0ce77b7dbc7ab0cf2a124d763b3ad0c3ab886aaafb1d04f4", func := "loop.example/g01182/laws.FnExactOrderOfMatrix", spec := "fnExactOrderOfMatrix", apart := false, narrowed := true }
def FnExactOrderOfMatrixUptoSaid : Prop := fnExactOrderOfMatrixUptoRow.holds Try.pinned (OpenSpec.upto fnExactOrderOfMatrixSpec)

/-- 'laws.FnExactBranchNumber', WHERE WHAT IT READS IS OF BULK AT MOST 1048576: true; the input reads as it did. -/
def fnExactBranchNumberUptoRow : OpenClaim := { program := "ytohcpednhmadkaa", sum := "5c4942bf4c5b138c0ce77b7dbc7ab0cf2a124d763b3ad0c3ab886aaafb1d04f4", func := "loop.example/g01182/laws.FnExactBranchNumber", spec := "fnExactBranchNumber", apart := false, narrowed := true }
def FnExactBranchNumberUptoSaid : Prop := fnExactBranchNumberUptoRow.holds Try.pinned (OpenSpec.upto fnExactBranchNumberSpec)

/-- 'laws.FnExactIsCipher', WHERE WHAT IT READS IS OF BULK AT MOST 1048576: true; the input reads as it did. -/
def fnExactIsCipherUptoRow : OpenClaim := { program := "ytohcpednhmadkaa", sum := "5c4942bf4c5b138c0ce77b7dbc7ab0cf2a124d763b3ad0c3ab886aaafb1d04f4", func := "loop.example/g01182/laws.FnExactIsCipher", spec := "fnExactIsCipher", inPlace := ["internal/bytealg.IndexByte"], apart := false, narrowed := true }
def FnExactIsCipherUptoSaid : Prop := fnExactIsCipherUptoRow.holds Try.pinned (OpenSpec.upto fnExactIsCipherSpec)

/-- 'laws.FnExactKeysOfNetwork', WHERE WHAT IT READS IS OF BULK AT MOST 1048576: true; the input reads as it did. -/
def fnExactKeysOfNetworkUptoRow : OpenClaim := { program := "ytohcpednhmadkaa", sum := "5c4942bf4c5b138c0ce77b7dbc7ab0cf2a124d763b3ad0c3ab886aaafb1d04f4", func := "loop.example/g01182/laws.FnExactKeysOfNetwork", spec := "fnExactKeysOfNetwork", apart := false, narrowed := true }
def FnExactKeysOfNetworkUptoSaid : Prop := fnExactKeysOfNetworkUptoRow.holds Try.pinned (OpenSpec.upto fnExactKeysOfNetworkSpec)

/-- 'laws.FnExactRoundFunction', WHERE WHAT IT READS IS OF BULK AT MOST 1048576: true; the input reads as it did. -/
def fnExactRoundFunctionUptoRow : OpenClaim := { program := "ytohcpednhmadkaa", sum := "5c4942bf4c5b138c0ce77b7dbc7ab0cf2a124d763b3ad0c3ab886aaafb1d04f4", func := "loop.example/g01182/laws.FnExactRoundFunction", spec := "fnExactRoundFunction", apart := false, narrowed := true }
def FnExactRoundFunctionUptoSaid : Prop := fnExactRoundFunctionUptoRow.holds Try.pinned (OpenSpec.upto fnExactRoundFunctionSpec)

/-- 'laws.FnExactInverseFunction', WHERE WHAT IT READS IS OF BULK AT MOST 1048576: true; the input reads as it did. -/
def fnExactInverseFunctionUptoRow : OpenClaim := { program := "ytohcpednhmadkaa", sum := "5c4942bf4c5b138c0ce77b7dbc7ab0cf2a124d763b3ad0c3ab886aaafb1d04f4", func := "loop.example/g01182/laws.FnExactInverseFunction", spec := "fnExactInverseFunction", apart := false, narrowed := true }
def FnExactInverseFunctionUptoSaid : Prop := fnExactInverseFunctionUptoRow.holds Try.pinned (OpenSpec.upto fnExactInverseFunctionSpec)

/-- 'laws.FnExactKeyBefore', WHERE WHAT IT READS IS OF BULK AT MOST 1048576: true; the input reads as it did. -/
def fnExactKeyBeforeUptoRow : OpenClaim := { program := "ytohcpednhmadkaa", sum := "5c4942bf4c5b138c0ce77b7dbc7ab0cf2a124d763b3ad0c3ab886aaafb1d04f4", func := "loop.example/g01182/laws.FnExactKeyBefore", spec := "fnExactKeyBefore", inPlace := ["internal/bytealg.IndexByte"], apart := false, narrowed := true }
def FnExactKeyBeforeUptoSaid : Prop := fnExactKeyBeforeUptoRow.holds Try.pinned (OpenSpec.upto fnExactKeyBeforeSpec)

/-- 'laws.FnExactLayerOf', WHERE WHAT IT READS IS OF BULK AT MOST 1048576: true; the input reads as it did. -/
def fnExactLayerOfUptoRow : OpenClaim := { program := "ytohcpednhmadkaa", sum := "5c4942bf4c5b138c0ce77b7dbc7ab0cf2a124d763b3ad0c3ab886aaafb1d04f4", func := "loop.example/g01182/laws.FnExactLayerOf", spec := "fnExactLayerOf", inPlace := ["internal/bytealg.IndexByte"], apart := false, narrowed := true }
def FnExactLayerOfUptoSaid : Prop := fnExactLayerOfUptoRow.holds Try.pinned (OpenSpec.upto fnExactLayerOfSpec)

/-- 'laws.FnExactBeforeLayer', WHERE WHAT IT READS IS OF BULK AT MOST 1048576: true; the input reads as it did. -/
def fnExactBeforeLayerUptoRow : OpenClaim := { program := "ytohcpednhmadkaa", sum := "5c4942bf4c5b138c0ce77b7dbc7ab0cf2a124d763b3ad0c3ab886aaafb1d04f4", func := "loop.example/g01182/laws.FnExactBeforeLayer", spec := "fnExactBeforeLayer", inPlace := ["internal/bytealg.IndexByte"], apart := false, narrowed := true }
def FnExactBeforeLayerUptoSaid : Prop := fnExactBeforeLayerUptoRow.holds Try.pinned (OpenSpec.upto fnExactBeforeLayerSpec)

/-- 'laws.FnExactKeysOfRounds', WHERE WHAT IT READS IS OF BULK AT MOST 1048576: true; the input reads as it did. -/
def fnExactKeysOfRoundsUptoRow : OpenClaim := { program := "ytohcpednhmadkaa", sum := "5c4942bf4c5b138c0ce77b7dbc7ab0cf2a124d763b3ad0c3ab886aaafb1d04f4", func := "loop.example/g01182/laws.FnExactKeysOfRounds", spec := "fnExactKeysOfRounds", inPlace := ["internal/bytealg.IndexByte"], apart := false, narrowed := true }
def FnExactKeysOfRoundsUptoSaid : Prop := fnExactKeysOfRoundsUptoRow.holds Try.pinned (OpenSpec.upto fnExactKeysOfRoundsSpec)

/-- 'laws.FnExactIsSlid', WHERE WHAT IT READS IS OF BULK AT MOST 1048576: true; the input reads as it did. -/
def fnExactIsSlidUptoRow : OpenClaim := { program := "ytohcpednhmadkaa", sum := "5c4942bf4c5b138c0ce77b7dbc7ab0cf2a124d763b3ad0c3ab886aaafb1d04f4", func := "loop.example/g01182/laws.FnExactIsSlid", spec := "fnExactIsSlid", apart := false, narrowed := true }
def FnExactIsSlidUptoSaid : Prop := fnExactIsSlidUptoRow.holds Try.pinned (OpenSpec.upto fnExactIsSlidSpec)

end Rows
end Go.Proofs.Ytohcpednhmadkaa
