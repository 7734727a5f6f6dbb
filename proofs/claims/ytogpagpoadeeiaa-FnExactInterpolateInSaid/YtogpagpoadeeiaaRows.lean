/-
  No cell of these rows narrows 'for every input' (looked for: loops, veiled, ifaces, maps, wideKeys, modest, calm, conditions, laid).
  DERIVED. THE GIVEN ROWS OF THIS SEAT. 12 by the template 'for every input the law returns true; each argument reads behind the call as it read before'; 0 by the template 'total and deterministic' (their statements: YtogpagpoadeeiaaTotals.lean).
  GIVEN WITH THE SEED: the statements are not yours to turn. If you find one false, say at which input.
  Laid BY PROGRAM, IN A SANDBOX (cutbox-rows.mjs): the forced cells as the released guide's own fill.sh prints them over the translation e4888a414d874d7c… (all of the seat's roots in one cut). By AI agents, Wed Nov 11 2026. No macro, syntax, notation, axiom, sorry.
-/
import Derived.Test.YtogpagpoadeeiaaChecked
import GoSem.Claim
import GoSem.ClaimJoined
import GoSem.ClaimMapViews
import Derived.JoinedTies
import Derived.KernelRfl
namespace Go.Proofs.Ytogpagpoadeeiaa
/- THE CELL 'sum', in the pinned program and in every row, IS THE sha256 OF THE DUMP (.gsa) THAT YtogpagpoadeeiaaProg.lean LOADS. Nothing in Lean hashes anything: it is a label: what it is worth is what the hold of that sum in a sandbox is worth. -/
noncomputable def Try.pinned : Pinned := { name := "ytogpagpoadeeiaa", sum := "e4888a414d874d7c6035f1aef3c11b771cbbfcf54e010b5e296258954cf813c0", checked := Try.checked }
namespace Rows
def none {H : Type} : Left H := { results := [], args := [] }

/-- 'laws.FnExactActiveBytes': WHATEVER THE INPUT: true; the input reads as it did. -/
def fnExactActiveBytesSpec : ChangeSpec := { name := "fnExactActiveBytes", fn := fun _ => fun
  | [d] => { results := [.lit (.bool true)], args := [d] }
  | _ => none }
def fnExactActiveBytesRow : OpenClaim := { program := "ytogpagpoadeeiaa", sum := "e4888a414d874d7c6035f1aef3c11b771cbbfcf54e010b5e296258954cf813c0", func := "loop.example/g01182/laws.FnExactActiveBytes", spec := "fnExactActiveBytes", apart := false }
def FnExactActiveBytesSaid : Prop := fnExactActiveBytesRow.holds Try.pinned (OpenSpec.ofChange fnExactActiveBytesSpec)

/-- ITS FALSE NEIGHBOUR: 'it returns false'. Refute it at one input. -/
def fnExactActiveBytesWrong : ChangeSpec := { name := "fnExactActiveBytes", fn := fun _ => fun
  | [d] => { results := [.lit (.bool false)], args := [d] }
  | _ => none }
def FnExactActiveBytesWrongFalsely : Prop := fnExactActiveBytesRow.holds Try.pinned (OpenSpec.ofChange fnExactActiveBytesWrong)

/-- 'laws.FnExactComplementOf': WHATEVER THE INPUT: true; the input reads as it did. -/
def fnExactComplementOfSpec : ChangeSpec := { name := "fnExactComplementOf", fn := fun _ => fun
  | [d] => { results := [.lit (.bool true)], args := [d] }
  | _ => none }
def fnExactComplementOfRow : OpenClaim := { program := "ytogpagpoadeeiaa", sum := "e4888a414d874d7c6035f1aef3c11b771cbbfcf54e010b5e296258954cf813c0", func := "loop.example/g01182/laws.FnExactComplementOf", spec := "fnExactComplementOf", apart := false }
def FnExactComplementOfSaid : Prop := fnExactComplementOfRow.holds Try.pinned (OpenSpec.ofChange fnExactComplementOfSpec)

/-- ITS FALSE NEIGHBOUR: 'it returns false'. Refute it at one input. -/
def fnExactComplementOfWrong : ChangeSpec := { name := "fnExactComplementOf", fn := fun _ => fun
  | [d] => { results := [.lit (.bool false)], args := [d] }
  | _ => none }
def FnExactComplementOfWrongFalsely : Prop := fnExactComplementOfRow.holds Try.pinned (OpenSpec.ofChange fnExactComplementOfWrong)

/-- 'laws.FnExactLooksLikeTwo': WHATEVER THE INPUT: true; the input reads as it did. -/
def fnExactLooksLikeTwoSpec : ChangeSpec := { name := "fnExactLooksLikeTwo", fn := fun _ => fun
  | [d1, d2, d3, d4] => { results := [.lit (.bool true)], args := [d1, d2, d3, d4] }
  | _ => none }
def fnExactLooksLikeTwoRow : OpenClaim := { program := "ytogpagpoadeeiaa", sum := "e4888a414d874d7c6035f1aef3c11b771cbbfcf54e010b5e296258954cf813c0", func := "loop.example/g01182/laws.FnExactLooksLikeTwo", spec := "fnExactLooksLikeTwo", apart := false }
def FnExactLooksLikeTwoSaid : Prop := fnExactLooksLikeTwoRow.holds Try.pinned (OpenSpec.ofChange fnExactLooksLikeTwoSpec)

/-- ITS FALSE NEIGHBOUR: 'it returns false'. Refute it at one input. -/
def fnExactLooksLikeTwoWrong : ChangeSpec := { name := "fnExactLooksLikeTwo", fn := fun _ => fun
  | [d1, d2, d3, d4] => { results := [.lit (.bool false)], args := [d1, d2, d3, d4] }
  | _ => none }
def FnExactLooksLikeTwoWrongFalsely : Prop := fnExactLooksLikeTwoRow.holds Try.pinned (OpenSpec.ofChange fnExactLooksLikeTwoWrong)

/-- 'laws.FnExactExchangeHalves': WHATEVER THE INPUT: true; the input reads as it did. -/
def fnExactExchangeHalvesSpec : ChangeSpec := { name := "fnExactExchangeHalves", fn := fun _ => fun
  | [d] => { results := [.lit (.bool true)], args := [d] }
  | _ => none }
def fnExactExchangeHalvesRow : OpenClaim := { program := "ytogpagpoadeeiaa", sum := "e4888a414d874d7c6035f1aef3c11b771cbbfcf54e010b5e296258954cf813c0", func := "loop.example/g01182/laws.FnExactExchangeHalves", spec := "fnExactExchangeHalves", apart := false }
def FnExactExchangeHalvesSaid : Prop := fnExactExchangeHalvesRow.holds Try.pinned (OpenSpec.ofChange fnExactExchangeHalvesSpec)

/-- ITS FALSE NEIGHBOUR: 'it returns false'. Refute it at one input. -/
def fnExactExchangeHalvesWrong : ChangeSpec := { name := "fnExactExchangeHalves", fn := fun _ => fun
  | [d] => { results := [.lit (.bool false)], args := [d] }
  | _ => none }
def FnExactExchangeHalvesWrongFalsely : Prop := fnExactExchangeHalvesRow.holds Try.pinned (OpenSpec.ofChange fnExactExchangeHalvesWrong)

/-- 'laws.FnExactReverseKeys': WHATEVER THE INPUT: true; the input reads as it did. -/
def fnExactReverseKeysSpec : ChangeSpec := { name := "fnExactReverseKeys", fn := fun _ => fun
  | [d] => { results := [.lit (.bool true)], args := [d] }
  | _ => none }
def fnExactReverseKeysRow : OpenClaim := { program := "ytogpagpoadeeiaa", sum := "e4888a414d874d7c6035f1aef3c11b771cbbfcf54e010b5e296258954cf813c0", func := "loop.example/g01182/laws.FnExactReverseKeys", spec := "fnExactReverseKeys", apart := false }
def FnExactReverseKeysSaid : Prop := fnExactReverseKeysRow.holds Try.pinned (OpenSpec.ofChange fnExactReverseKeysSpec)

/-- ITS FALSE NEIGHBOUR: 'it returns false'. Refute it at one input. -/
def fnExactReverseKeysWrong : ChangeSpec := { name := "fnExactReverseKeys", fn := fun _ => fun
  | [d] => { results := [.lit (.bool false)], args := [d] }
  | _ => none }
def FnExactReverseKeysWrongFalsely : Prop := fnExactReverseKeysRow.holds Try.pinned (OpenSpec.ofChange fnExactReverseKeysWrong)

/-- 'laws.FnExactMixBlock': WHATEVER THE INPUT: true; the input reads as it did. -/
def fnExactMixBlockSpec : ChangeSpec := { name := "fnExactMixBlock", fn := fun _ => fun
  | [d1, d2, d3] => { results := [.lit (.bool true)], args := [d1, d2, d3] }
  | _ => none }
def fnExactMixBlockRow : OpenClaim := { program := "ytogpagpoadeeiaa", sum := "e4888a414d874d7c6035f1aef3c11b771cbbfcf54e010b5e296258954cf813c0", func := "loop.example/g01182/laws.FnExactMixBlock", spec := "fnExactMixBlock", apart := false }
def FnExactMixBlockSaid : Prop := fnExactMixBlockRow.holds Try.pinned (OpenSpec.ofChange fnExactMixBlockSpec)

/-- ITS FALSE NEIGHBOUR: 'it returns false'. Refute it at one input. -/
def fnExactMixBlockWrong : ChangeSpec := { name := "fnExactMixBlock", fn := fun _ => fun
  | [d1, d2, d3] => { results := [.lit (.bool false)], args := [d1, d2, d3] }
  | _ => none }
def FnExactMixBlockWrongFalsely : Prop := fnExactMixBlockRow.holds Try.pinned (OpenSpec.ofChange fnExactMixBlockWrong)

/-- 'laws.FnExactHouseNetwork': WHATEVER THE INPUT: true; the input reads as it did. -/
def fnExactHouseNetworkSpec : ChangeSpec := { name := "fnExactHouseNetwork", fn := fun _ => fun
  | [d1, d2] => { results := [.lit (.bool true)], args := [d1, d2] }
  | _ => none }
def fnExactHouseNetworkRow : OpenClaim := { program := "ytogpagpoadeeiaa", sum := "e4888a414d874d7c6035f1aef3c11b771cbbfcf54e010b5e296258954cf813c0", func := "loop.example/g01182/laws.FnExactHouseNetwork", spec := "fnExactHouseNetwork", apart := false }
def FnExactHouseNetworkSaid : Prop := fnExactHouseNetworkRow.holds Try.pinned (OpenSpec.ofChange fnExactHouseNetworkSpec)

/-- ITS FALSE NEIGHBOUR: 'it returns false'. Refute it at one input. -/
def fnExactHouseNetworkWrong : ChangeSpec := { name := "fnExactHouseNetwork", fn := fun _ => fun
  | [d1, d2] => { results := [.lit (.bool false)], args := [d1, d2] }
  | _ => none }
def FnExactHouseNetworkWrongFalsely : Prop := fnExactHouseNetworkRow.holds Try.pinned (OpenSpec.ofChange fnExactHouseNetworkWrong)

/-- 'laws.FnExactHouseCipher': WHATEVER THE INPUT: true; the input reads as it did. -/
def fnExactHouseCipherSpec : ChangeSpec := { name := "fnExactHouseCipher", fn := fun _ => fun
  | [d] => { results := [.lit (.bool true)], args := [d] }
  | _ => none }
def fnExactHouseCipherRow : OpenClaim := { program := "ytogpagpoadeeiaa", sum := "e4888a414d874d7c6035f1aef3c11b771cbbfcf54e010b5e296258954cf813c0", func := "loop.example/g01182/laws.FnExactHouseCipher", spec := "fnExactHouseCipher", apart := false }
def FnExactHouseCipherSaid : Prop := fnExactHouseCipherRow.holds Try.pinned (OpenSpec.ofChange fnExactHouseCipherSpec)

/-- ITS FALSE NEIGHBOUR: 'it returns false'. Refute it at one input. -/
def fnExactHouseCipherWrong : ChangeSpec := { name := "fnExactHouseCipher", fn := fun _ => fun
  | [d] => { results := [.lit (.bool false)], args := [d] }
  | _ => none }
def FnExactHouseCipherWrongFalsely : Prop := fnExactHouseCipherRow.holds Try.pinned (OpenSpec.ofChange fnExactHouseCipherWrong)

/-- 'laws.FnExactDeterminantIn': WHATEVER THE INPUT: true; the input reads as it did. -/
def fnExactDeterminantInSpec : ChangeSpec := { name := "fnExactDeterminantIn", fn := fun _ => fun
  | [d1, d2] => { results := [.lit (.bool true)], args := [d1, d2] }
  | _ => none }
def fnExactDeterminantInRow : OpenClaim := { program := "ytogpagpoadeeiaa", sum := "e4888a414d874d7c6035f1aef3c11b771cbbfcf54e010b5e296258954cf813c0", func := "loop.example/g01182/laws.FnExactDeterminantIn", spec := "fnExactDeterminantIn", apart := false }
def FnExactDeterminantInSaid : Prop := fnExactDeterminantInRow.holds Try.pinned (OpenSpec.ofChange fnExactDeterminantInSpec)

/-- ITS FALSE NEIGHBOUR: 'it returns false'. Refute it at one input. -/
def fnExactDeterminantInWrong : ChangeSpec := { name := "fnExactDeterminantIn", fn := fun _ => fun
  | [d1, d2] => { results := [.lit (.bool false)], args := [d1, d2] }
  | _ => none }
def FnExactDeterminantInWrongFalsely : Prop := fnExactDeterminantInRow.holds Try.pinned (OpenSpec.ofChange fnExactDeterminantInWrong)

/-- 'laws.FnExactCauchyMatrix': WHATEVER THE INPUT: true; the input reads as it did. -/
def fnExactCauchyMatrixSpec : ChangeSpec := { name := "fnExactCauchyMatrix", fn := fun _ => fun
  | [d1, d2, d3] => { results := [.lit (.bool true)], args := [d1, d2, d3] }
  | _ => none }
def fnExactCauchyMatrixRow : OpenClaim := { program := "ytogpagpoadeeiaa", sum := "e4888a414d874d7c6035f1aef3c11b771cbbfcf54e010b5e296258954cf813c0", func := "loop.example/g01182/laws.FnExactCauchyMatrix", spec := "fnExactCauchyMatrix", inPlace := ["internal/bytealg.IndexByte"], apart := false }
def FnExactCauchyMatrixSaid : Prop := fnExactCauchyMatrixRow.holds Try.pinned (OpenSpec.ofChange fnExactCauchyMatrixSpec)

/-- ITS FALSE NEIGHBOUR: 'it returns false'. Refute it at one input. -/
def fnExactCauchyMatrixWrong : ChangeSpec := { name := "fnExactCauchyMatrix", fn := fun _ => fun
  | [d1, d2, d3] => { results := [.lit (.bool false)], args := [d1, d2, d3] }
  | _ => none }
def FnExactCauchyMatrixWrongFalsely : Prop := fnExactCauchyMatrixRow.holds Try.pinned (OpenSpec.ofChange fnExactCauchyMatrixWrong)

/-- 'laws.FnExactInterpolateIn': WHATEVER THE INPUT: true; the input reads as it did. -/
def fnExactInterpolateInSpec : ChangeSpec := { name := "fnExactInterpolateIn", fn := fun _ => fun
  | [d1, d2, d3] => { results := [.lit (.bool true)], args := [d1, d2, d3] }
  | _ => none }
def fnExactInterpolateInRow : OpenClaim := { program := "ytogpagpoadeeiaa", sum := "e4888a414d874d7c6035f1aef3c11b771cbbfcf54e010b5e296258954cf813c0", func := "loop.example/g01182/laws.FnExactInterpolateIn", spec := "fnExactInterpolateIn", inPlace := ["internal/bytealg.IndexByte"], apart := false }
def FnExactInterpolateInSaid : Prop := fnExactInterpolateInRow.holds Try.pinned (OpenSpec.ofChange fnExactInterpolateInSpec)

/-- ITS FALSE NEIGHBOUR: 'it returns false'. Refute it at one input. -/
def fnExactInterpolateInWrong : ChangeSpec := { name := "fnExactInterpolateIn", fn := fun _ => fun
  | [d1, d2, d3] => { results := [.lit (.bool false)], args := [d1, d2, d3] }
  | _ => none }
def FnExactInterpolateInWrongFalsely : Prop := fnExactInterpolateInRow.holds Try.pinned (OpenSpec.ofChange fnExactInterpolateInWrong)

/-- 'laws.FnExactInverseMatrix': WHATEVER THE INPUT: true; the input reads as it did. -/
def fnExactInverseMatrixSpec : ChangeSpec := { name := "fnExactInverseMatrix", fn := fun _ => fun
  | [d1, d2] => { results := [.lit (.bool true)], args := [d1, d2] }
  | _ => none }
def fnExactInverseMatrixRow : OpenClaim := { program := "ytogpagpoadeeiaa", sum := "e4888a414d874d7c6035f1aef3c11b771cbbfcf54e010b5e296258954cf813c0", func := "loop.example/g01182/laws.FnExactInverseMatrix", spec := "fnExactInverseMatrix", apart := false }
def FnExactInverseMatrixSaid : Prop := fnExactInverseMatrixRow.holds Try.pinned (OpenSpec.ofChange fnExactInverseMatrixSpec)

/-- ITS FALSE NEIGHBOUR: 'it returns false'. Refute it at one input. -/
def fnExactInverseMatrixWrong : ChangeSpec := { name := "fnExactInverseMatrix", fn := fun _ => fun
  | [d1, d2] => { results := [.lit (.bool false)], args := [d1, d2] }
  | _ => none }
def FnExactInverseMatrixWrongFalsely : Prop := fnExactInverseMatrixRow.holds Try.pinned (OpenSpec.ofChange fnExactInverseMatrixWrong)

/- THE SECOND FORM. 'bulk': how many values and letters a reading holds, each counted each time it is reached (what is shared counts as often as it is met; a slice's spare places count too). A statement '..UptoSaid' is the law's where the arguments, and the package variables that the reading takes, are together of bulk at most 1048576: NARROWER than '..Said'. Prove '..Said' where nothing that the law and all that it calls make is longer than what came in: it says more and counts as full. Else prove '..UptoSaid'. A law counts once. -/
mutual
def uptoBulk {H : Type} : DataW H → Nat
  | .lit (.string bytes) => bytes.length + 1
  | .lit _ => 1
  | .nil => 1
  | .ptr d => uptoBulk d + 1
  | .slice elems spare => uptoBulkAll elems + uptoBulkAll spare + 1
  | .agg parts => uptoBulkAll parts + 1
  | .iface _ d => uptoBulk d + 1
  | .map entries => uptoBulkEntries entries + 1
  | .held _ => 1
def uptoBulkAll {H : Type} : List (DataW H) → Nat
  | [] => 0
  | d :: r => uptoBulk d + uptoBulkAll r
def uptoBulkEntries {H : Type} : List (Lit × DataW H) → Nat
  | [] => 0
  | x :: r => uptoBulkEntry x + uptoBulkEntries r
def uptoBulkEntry {H : Type} : Lit × DataW H → Nat
  | (.string bytes, d) => bytes.length + uptoBulk d + 1
  | (_, d) => uptoBulk d + 1
 end
def uptoSmall : (H : Type) → List (DataW H) → Bool := fun _ ds => decide (uptoBulkAll ds ≤ 1048576)
def OpenSpec.upto (s : _root_.Go.ChangeSpec) : _root_.Go.OpenSpec := { _root_.Go.OpenSpec.ofChange s with cond := some uptoSmall }

/-- 'laws.FnExactActiveBytes', WHERE WHAT IT READS IS OF BULK AT MOST 1048576: true; the input reads as it did. -/
def fnExactActiveBytesUptoRow : OpenClaim := { program := "ytogpagpoadeeiaa", sum := "e4888a414d874d7c6035f1aef3c11b771cbbfcf54e010b5e296258954cf813c0", func := "loop.example/g01182/laws.FnExactActiveBytes", spec := "fnExactActiveBytes", apart := false, narrowed := true }
def FnExactActiveBytesUptoSaid : Prop := fnExactActiveBytesUptoRow.holds Try.pinned (OpenSpec.upto fnExactActiveBytesSpec)

/-- 'laws.FnExactComplementOf', WHERE WHAT IT READS IS OF BULK AT MOST 1048576: true; the input reads as it did. -/
def fnExactComplementOfUptoRow : OpenClaim := { program := "ytogpagpoadeeiaa", sum := "e4888a414d874d7c6035f1aef3c11b771cbbfcf54e010b5e296258954cf813c0", func := "loop.example/g01182/laws.FnExactComplementOf", spec := "fnExactComplementOf", apart := false, narrowed := true }
def FnExactComplementOfUptoSaid : Prop := fnExactComplementOfUptoRow.holds Try.pinned (OpenSpec.upto fnExactComplementOfSpec)

/-- 'laws.FnExactLooksLikeTwo', WHERE WHAT IT READS IS OF BULK AT MOST 1048576: true; the input reads as it did. -/
def fnExactLooksLikeTwoUptoRow : OpenClaim := { program := "ytogpagpoadeeiaa", sum := "e4888a414d874d7c6035f1aef3c11b771cbbfcf54e010b5e296258954cf813c0", func := "loop.example/g01182/laws.FnExactLooksLikeTwo", spec := "fnExactLooksLikeTwo", apart := false, narrowed := true }
def FnExactLooksLikeTwoUptoSaid : Prop := fnExactLooksLikeTwoUptoRow.holds Try.pinned (OpenSpec.upto fnExactLooksLikeTwoSpec)

/-- 'laws.FnExactExchangeHalves', WHERE WHAT IT READS IS OF BULK AT MOST 1048576: true; the input reads as it did. -/
def fnExactExchangeHalvesUptoRow : OpenClaim := { program := "ytogpagpoadeeiaa", sum := "e4888a414d874d7c6035f1aef3c11b771cbbfcf54e010b5e296258954cf813c0", func := "loop.example/g01182/laws.FnExactExchangeHalves", spec := "fnExactExchangeHalves", apart := false, narrowed := true }
def FnExactExchangeHalvesUptoSaid : Prop := fnExactExchangeHalvesUptoRow.holds Try.pinned (OpenSpec.upto fnExactExchangeHalvesSpec)

/-- 'laws.FnExactReverseKeys', WHERE WHAT IT READS IS OF BULK AT MOST 1048576: true; the input reads as it did. -/
def fnExactReverseKeysUptoRow : OpenClaim := { program := "ytogpagpoadeeiaa", sum := "e4888a414d874d7c6035f1aef3c11b771cbbfcf54e010b5e296258954cf813c0", func := "loop.example/g01182/laws.FnExactReverseKeys", spec := "fnExactReverseKeys", apart := false, narrowed := true }
def FnExactReverseKeysUptoSaid : Prop := fnExactReverseKeysUptoRow.holds Try.pinned (OpenSpec.upto fnExactReverseKeysSpec)

/-- 'laws.FnExactMixBlock', WHERE WHAT IT READS IS OF BULK AT MOST 1048576: true; the input reads as it did. -/
def fnExactMixBlockUptoRow : OpenClaim := { program := "ytogpagpoadeeiaa", sum := "e4888a414d874d7c6035f1aef3c11b771cbbfcf54e010b5e296258954cf813c0", func := "loop.example/g01182/laws.FnExactMixBlock", spec := "fnExactMixBlock", apart := false, narrowed := true }
def FnExactMixBlockUptoSaid : Prop := fnExactMixBlockUptoRow.holds Try.pinned (OpenSpec.upto fnExactMixBlockSpec)

/-- 'laws.FnExactHouseNetwork', WHERE WHAT IT READS IS OF BULK AT MOST 1048576: true; the input reads as it did. -/
def fnExactHouseNetworkUptoRow : OpenClaim := { program := "ytogpagpoadeeiaa", sum := "e4888a414d874d7c6035f1aef3c11b771cbbfcf54e010b5e296258954cf813c0", func := "loop.example/g01182/laws.FnExactHouseNetwork", spec := "fnExactHouseNetwork", apart := false, narrowed := true }
def FnExactHouseNetworkUptoSaid : Prop := fnExactHouseNetworkUptoRow.holds Try.pinned (OpenSpec.upto fnExactHouseNetworkSpec)

/-- 'laws.FnExactHouseCipher', WHERE WHAT IT READS IS OF BULK AT MOST 1048576: true; the input reads as it did. -/
def fnExactHouseCipherUptoRow : OpenClaim := { program := "ytogpagpoadeeiaa", sum := "e4888a414d874d7c6035f1aef3c11b771cbbfcf54e010b5e296258954cf813c0", func := "loop.example/g01182/laws.FnExactHouseCipher", spec := "fnExactHouseCipher", apart := false, narrowed := true }
def FnExactHouseCipherUptoSaid : Prop := fnExactHouseCipherUptoRow.holds Try.pinned (OpenSpec.upto fnExactHouseCipherSpec)

/-- 'laws.FnExactDeterminantIn', WHERE WHAT IT READS IS OF BULK AT MOST 1048576: true; the input reads as it did. -/
def fnExactDeterminantInUptoRow : OpenClaim := { program := "ytogpagpoadeeiaa", sum := "e4888a414d874d7c6035f1aef3c11b771cbbfcf54e010b5e296258954cf813c0", func := "loop.example/g01182/laws.FnExactDeterminantIn", spec := "fnExactDeterminantIn", apart := false, narrowed := true }
def FnExactDeterminantInUptoSaid : Prop := fnExactDeterminantInUptoRow.holds Try.pinned (OpenSpec.upto fnExactDeterminantInSpec)

/-- 'laws.FnExactCauchyMatrix', WHERE WHAT IT READS IS OF BULK AT MOST 1048576: true; the input reads as it did. -/
def fnExactCauchyMatrixUptoRow : OpenClaim := { program := "ytogpagpoadeeiaa", sum := "e4888a414d874d7c6035f1aef3c11b771cbbfcf54e010b5e296258954cf813c0", func := "loop.example/g01182/laws.FnExactCauchyMatrix", spec := "fnExactCauchyMatrix", inPlace := ["internal/bytealg.IndexByte"], apart := false, narrowed := true }
def FnExactCauchyMatrixUptoSaid : Prop := fnExactCauchyMatrixUptoRow.holds Try.pinned (OpenSpec.upto fnExactCauchyMatrixSpec)

/-- 'laws.FnExactInterpolateIn', WHERE WHAT IT READS IS OF BULK AT MOST 1048576: true; the input reads as it did. -/
def fnExactInterpolateInUptoRow : OpenClaim := { program := "ytogpagpoadeeiaa", sum := "e4888a414d874d7c6035f1aef3c11b771cbbfcf54e010b5e296258954cf813c0", func := "loop.example/g01182/laws.FnExactInterpolateIn", spec := "fnExactInterpolateIn", inPlace := ["internal/bytealg.IndexByte"], apart := false, narrowed := true }
def FnExactInterpolateInUptoSaid : Prop := fnExactInterpolateInUptoRow.holds Try.pinned (OpenSpec.upto fnExactInterpolateInSpec)

/-- 'laws.FnExactInverseMatrix', WHERE WHAT IT READS IS OF BULK AT MOST 1048576: true; the input reads as it did. -/
def fnExactInverseMatrixUptoRow : OpenClaim := { program := "ytogpagpoadeeiaa", sum := "e4888a414d874d7c6035f1aef3c11b771cbbfcf54e010b5e296258954cf813c0", func := "loop.example/g01182/laws.FnExactInverseMatrix", spec := "fnExactInverseMatrix", apart := false, narrowed := true }
def FnExactInverseMatrixUptoSaid : Prop := fnExactInverseMatrixUptoRow.holds Try.pinned (OpenSpec.upto fnExactInverseMatrixSpec)

end Rows
end Go.Proofs.Ytogpagpoadeeiaa
