/-
  No cell of these rows narrows 'for every input' (looked for: loops, veiled, ifaces, maps, wideKeys, modest, calm, conditions, laid).
  DERIVED. THE GIVEN ROWS OF THIS SEAT. 12 by the template 'for every input the law returns true; each argument reads behind the call as it read before'; 0 by the template 'total and deterministic' (their statements: YtjaejplnmgfehaaTotals.lean).
  GIVEN WITH THE SEED: the statements are not yours to turn. If you find one false, say at which input.
  Laid BY PROGRAM, IN A SANDBOX (cutbox-rows.mjs): the forced cells as the released guide's own fill.sh prints them over the translation 75c9e6a39ba675f5… (all of the seat's roots in one cut). By AI agents, Wed Nov 11 2026. No macro, syntax, notation, axiom, sorry.
-/
import Derived.Test.YtjaejplnmgfehaaChecked
import GoSem.Claim
import GoSem.ClaimJoined
import GoSem.ClaimMapViews
import Derived.JoinedTies
import Derived.KernelRfl
namespace Go.Proofs.Ytjaejplnmgfehaa
/- THE CELL 'sum', in the pinned program and in every row, IS THE sha256 OF THE DUMP (.gsa) THAT YtjaejplnmgfehaaProg.lean LOADS. Nothing in Lean hashes anything: it is a label: what it is worth is what the hold of that sum in a sandbox is worth. -/
noncomputable def Try.pinned : Pinned := { name := "ytjaejplnmgfehaa", sum := "75c9e6a39ba675f5d1665eafb7ff66b95721eb2d7afaadb338650d457f089563", checked := Try.checked }
namespace Rows
def none {H : Type} : Left H := { results := [], args := [] }

/-- 'laws.FnExactRoundOf': WHATEVER THE INPUT: true; the input reads as it did. -/
def fnExactRoundOfSpec : ChangeSpec := { name := "fnExactRoundOf", fn := fun _ => fun
  | [d1, d2, d3] => { results := [.lit (.bool true)], args := [d1, d2, d3] }
  | _ => none }
def fnExactRoundOfRow : OpenClaim := { program := "ytjaejplnmgfehaa", sum := "75c9e6a39ba675f5d1665eafb7ff66b95721eb2d7afaadb338650d457f089563", func := "loop.example/g01182/laws.FnExactRoundOf", spec := "fnExactRoundOf", apart := false }
def FnExactRoundOfSaid : Prop := fnExactRoundOfRow.holds Try.pinned (OpenSpec.ofChange fnExactRoundOfSpec)

/-- ITS FALSE NEIGHBOUR: 'it returns false'. Refute it at one input. -/
def fnExactRoundOfWrong : ChangeSpec := { name := "fnExactRoundOf", fn := fun _ => fun
  | [d1, d2, d3] => { results := [.lit (.bool false)], args := [d1, d2, d3] }
  | _ => none }
def FnExactRoundOfWrongFalsely : Prop := fnExactRoundOfRow.holds Try.pinned (OpenSpec.ofChange fnExactRoundOfWrong)

/-- 'laws.FnExactBestStep': WHATEVER THE INPUT: true; the input reads as it did. -/
def fnExactBestStepSpec : ChangeSpec := { name := "fnExactBestStep", fn := fun _ => fun
  | [d1, d2, d3] => { results := [.lit (.bool true)], args := [d1, d2, d3] }
  | _ => none }
def fnExactBestStepRow : OpenClaim := { program := "ytjaejplnmgfehaa", sum := "75c9e6a39ba675f5d1665eafb7ff66b95721eb2d7afaadb338650d457f089563", func := "loop.example/g01182/laws.FnExactBestStep", spec := "fnExactBestStep", inPlace := ["internal/bytealg.IndexByte"], apart := false }
def FnExactBestStepSaid : Prop := fnExactBestStepRow.holds Try.pinned (OpenSpec.ofChange fnExactBestStepSpec)

/-- ITS FALSE NEIGHBOUR: 'it returns false'. Refute it at one input. -/
def fnExactBestStepWrong : ChangeSpec := { name := "fnExactBestStep", fn := fun _ => fun
  | [d1, d2, d3] => { results := [.lit (.bool false)], args := [d1, d2, d3] }
  | _ => none }
def FnExactBestStepWrongFalsely : Prop := fnExactBestStepRow.holds Try.pinned (OpenSpec.ofChange fnExactBestStepWrong)

/-- 'laws.FnExactStepCounts': WHATEVER THE INPUT: true; the input reads as it did. -/
def fnExactStepCountsSpec : ChangeSpec := { name := "fnExactStepCounts", fn := fun _ => fun
  | [d1, d2, d3, d4] => { results := [.lit (.bool true)], args := [d1, d2, d3, d4] }
  | _ => none }
def fnExactStepCountsRow : OpenClaim := { program := "ytjaejplnmgfehaa", sum := "75c9e6a39ba675f5d1665eafb7ff66b95721eb2d7afaadb338650d457f089563", func := "loop.example/g01182/laws.FnExactStepCounts", spec := "fnExactStepCounts", inPlace := ["internal/bytealg.IndexByte"], apart := false }
def FnExactStepCountsSaid : Prop := fnExactStepCountsRow.holds Try.pinned (OpenSpec.ofChange fnExactStepCountsSpec)

/-- ITS FALSE NEIGHBOUR: 'it returns false'. Refute it at one input. -/
def fnExactStepCountsWrong : ChangeSpec := { name := "fnExactStepCounts", fn := fun _ => fun
  | [d1, d2, d3, d4] => { results := [.lit (.bool false)], args := [d1, d2, d3, d4] }
  | _ => none }
def FnExactStepCountsWrongFalsely : Prop := fnExactStepCountsRow.holds Try.pinned (OpenSpec.ofChange fnExactStepCountsWrong)

/-- 'laws.FnExactEncipher': WHATEVER THE INPUT: true; the input reads as it did. -/
def fnExactEncipherSpec : ChangeSpec := { name := "fnExactEncipher", fn := fun _ => fun
  | [d1, d2, d3] => { results := [.lit (.bool true)], args := [d1, d2, d3] }
  | _ => none }
def fnExactEncipherRow : OpenClaim := { program := "ytjaejplnmgfehaa", sum := "75c9e6a39ba675f5d1665eafb7ff66b95721eb2d7afaadb338650d457f089563", func := "loop.example/g01182/laws.FnExactEncipher", spec := "fnExactEncipher", inPlace := ["internal/bytealg.IndexByte"], apart := false }
def FnExactEncipherSaid : Prop := fnExactEncipherRow.holds Try.pinned (OpenSpec.ofChange fnExactEncipherSpec)

/-- ITS FALSE NEIGHBOUR: 'it returns false'. Refute it at one input. -/
def fnExactEncipherWrong : ChangeSpec := { name := "fnExactEncipher", fn := fun _ => fun
  | [d1, d2, d3] => { results := [.lit (.bool false)], args := [d1, d2, d3] }
  | _ => none }
def FnExactEncipherWrongFalsely : Prop := fnExactEncipherRow.holds Try.pinned (OpenSpec.ofChange fnExactEncipherWrong)

/-- 'laws.FnExactEncipherShort': WHATEVER THE INPUT: true; the input reads as it did. -/
def fnExactEncipherShortSpec : ChangeSpec := { name := "fnExactEncipherShort", fn := fun _ => fun
  | [d1, d2, d3, d4] => { results := [.lit (.bool true)], args := [d1, d2, d3, d4] }
  | _ => none }
def fnExactEncipherShortRow : OpenClaim := { program := "ytjaejplnmgfehaa", sum := "75c9e6a39ba675f5d1665eafb7ff66b95721eb2d7afaadb338650d457f089563", func := "loop.example/g01182/laws.FnExactEncipherShort", spec := "fnExactEncipherShort", inPlace := ["internal/bytealg.IndexByte"], apart := false }
def FnExactEncipherShortSaid : Prop := fnExactEncipherShortRow.holds Try.pinned (OpenSpec.ofChange fnExactEncipherShortSpec)

/-- ITS FALSE NEIGHBOUR: 'it returns false'. Refute it at one input. -/
def fnExactEncipherShortWrong : ChangeSpec := { name := "fnExactEncipherShort", fn := fun _ => fun
  | [d1, d2, d3, d4] => { results := [.lit (.bool false)], args := [d1, d2, d3, d4] }
  | _ => none }
def FnExactEncipherShortWrongFalsely : Prop := fnExactEncipherShortRow.holds Try.pinned (OpenSpec.ofChange fnExactEncipherShortWrong)

/-- 'laws.FnExactDecipher': WHATEVER THE INPUT: true; the input reads as it did. -/
def fnExactDecipherSpec : ChangeSpec := { name := "fnExactDecipher", fn := fun _ => fun
  | [d1, d2, d3] => { results := [.lit (.bool true)], args := [d1, d2, d3] }
  | _ => none }
def fnExactDecipherRow : OpenClaim := { program := "ytjaejplnmgfehaa", sum := "75c9e6a39ba675f5d1665eafb7ff66b95721eb2d7afaadb338650d457f089563", func := "loop.example/g01182/laws.FnExactDecipher", spec := "fnExactDecipher", inPlace := ["internal/bytealg.IndexByte"], apart := false }
def FnExactDecipherSaid : Prop := fnExactDecipherRow.holds Try.pinned (OpenSpec.ofChange fnExactDecipherSpec)

/-- ITS FALSE NEIGHBOUR: 'it returns false'. Refute it at one input. -/
def fnExactDecipherWrong : ChangeSpec := { name := "fnExactDecipher", fn := fun _ => fun
  | [d1, d2, d3] => { results := [.lit (.bool false)], args := [d1, d2, d3] }
  | _ => none }
def FnExactDecipherWrongFalsely : Prop := fnExactDecipherRow.holds Try.pinned (OpenSpec.ofChange fnExactDecipherWrong)

/-- 'laws.FnExactDecipherShort': WHATEVER THE INPUT: true; the input reads as it did. -/
def fnExactDecipherShortSpec : ChangeSpec := { name := "fnExactDecipherShort", fn := fun _ => fun
  | [d1, d2, d3, d4] => { results := [.lit (.bool true)], args := [d1, d2, d3, d4] }
  | _ => none }
def fnExactDecipherShortRow : OpenClaim := { program := "ytjaejplnmgfehaa", sum := "75c9e6a39ba675f5d1665eafb7ff66b95721eb2d7afaadb338650d457f089563", func := "loop.example/g01182/laws.FnExactDecipherShort", spec := "fnExactDecipherShort", inPlace := ["internal/bytealg.IndexByte"], apart := false }
def FnExactDecipherShortSaid : Prop := fnExactDecipherShortRow.holds Try.pinned (OpenSpec.ofChange fnExactDecipherShortSpec)

/-- ITS FALSE NEIGHBOUR: 'it returns false'. Refute it at one input. -/
def fnExactDecipherShortWrong : ChangeSpec := { name := "fnExactDecipherShort", fn := fun _ => fun
  | [d1, d2, d3, d4] => { results := [.lit (.bool false)], args := [d1, d2, d3, d4] }
  | _ => none }
def FnExactDecipherShortWrongFalsely : Prop := fnExactDecipherShortRow.holds Try.pinned (OpenSpec.ofChange fnExactDecipherShortWrong)

/-- 'laws.FnExactBestTrail': WHATEVER THE INPUT: true; the input reads as it did. -/
def fnExactBestTrailSpec : ChangeSpec := { name := "fnExactBestTrail", fn := fun _ => fun
  | [d1, d2, d3] => { results := [.lit (.bool true)], args := [d1, d2, d3] }
  | _ => none }
def fnExactBestTrailRow : OpenClaim := { program := "ytjaejplnmgfehaa", sum := "75c9e6a39ba675f5d1665eafb7ff66b95721eb2d7afaadb338650d457f089563", func := "loop.example/g01182/laws.FnExactBestTrail", spec := "fnExactBestTrail", inPlace := ["internal/bytealg.IndexByte"], apart := false }
def FnExactBestTrailSaid : Prop := fnExactBestTrailRow.holds Try.pinned (OpenSpec.ofChange fnExactBestTrailSpec)

/-- ITS FALSE NEIGHBOUR: 'it returns false'. Refute it at one input. -/
def fnExactBestTrailWrong : ChangeSpec := { name := "fnExactBestTrail", fn := fun _ => fun
  | [d1, d2, d3] => { results := [.lit (.bool false)], args := [d1, d2, d3] }
  | _ => none }
def FnExactBestTrailWrongFalsely : Prop := fnExactBestTrailRow.holds Try.pinned (OpenSpec.ofChange fnExactBestTrailWrong)

/-- 'laws.FnExactPairsInByte': WHATEVER THE INPUT: true; the input reads as it did. -/
def fnExactPairsInByteSpec : ChangeSpec := { name := "fnExactPairsInByte", fn := fun _ => fun
  | [d1, d2, d3, d4, d5, d6, d7] => { results := [.lit (.bool true)], args := [d1, d2, d3, d4, d5, d6, d7] }
  | _ => none }
def fnExactPairsInByteRow : OpenClaim := { program := "ytjaejplnmgfehaa", sum := "75c9e6a39ba675f5d1665eafb7ff66b95721eb2d7afaadb338650d457f089563", func := "loop.example/g01182/laws.FnExactPairsInByte", spec := "fnExactPairsInByte", inPlace := ["internal/bytealg.IndexByte"], apart := false }
def FnExactPairsInByteSaid : Prop := fnExactPairsInByteRow.holds Try.pinned (OpenSpec.ofChange fnExactPairsInByteSpec)

/-- ITS FALSE NEIGHBOUR: 'it returns false'. Refute it at one input. -/
def fnExactPairsInByteWrong : ChangeSpec := { name := "fnExactPairsInByte", fn := fun _ => fun
  | [d1, d2, d3, d4, d5, d6, d7] => { results := [.lit (.bool false)], args := [d1, d2, d3, d4, d5, d6, d7] }
  | _ => none }
def FnExactPairsInByteWrongFalsely : Prop := fnExactPairsInByteRow.holds Try.pinned (OpenSpec.ofChange fnExactPairsInByteWrong)

/-- 'laws.FnExactEncipherAll': WHATEVER THE INPUT: true; the input reads as it did. -/
def fnExactEncipherAllSpec : ChangeSpec := { name := "fnExactEncipherAll", fn := fun _ => fun
  | [d1, d2, d3] => { results := [.lit (.bool true)], args := [d1, d2, d3] }
  | _ => none }
def fnExactEncipherAllRow : OpenClaim := { program := "ytjaejplnmgfehaa", sum := "75c9e6a39ba675f5d1665eafb7ff66b95721eb2d7afaadb338650d457f089563", func := "loop.example/g01182/laws.FnExactEncipherAll", spec := "fnExactEncipherAll", inPlace := ["internal/bytealg.IndexByte"], apart := false }
def FnExactEncipherAllSaid : Prop := fnExactEncipherAllRow.holds Try.pinned (OpenSpec.ofChange fnExactEncipherAllSpec)

/-- ITS FALSE NEIGHBOUR: 'it returns false'. Refute it at one input. -/
def fnExactEncipherAllWrong : ChangeSpec := { name := "fnExactEncipherAll", fn := fun _ => fun
  | [d1, d2, d3] => { results := [.lit (.bool false)], args := [d1, d2, d3] }
  | _ => none }
def FnExactEncipherAllWrongFalsely : Prop := fnExactEncipherAllRow.holds Try.pinned (OpenSpec.ofChange fnExactEncipherAllWrong)

/-- 'laws.FnExactChangedBits': WHATEVER THE INPUT: true; the input reads as it did. -/
def fnExactChangedBitsSpec : ChangeSpec := { name := "fnExactChangedBits", fn := fun _ => fun
  | [d1, d2, d3, d4] => { results := [.lit (.bool true)], args := [d1, d2, d3, d4] }
  | _ => none }
def fnExactChangedBitsRow : OpenClaim := { program := "ytjaejplnmgfehaa", sum := "75c9e6a39ba675f5d1665eafb7ff66b95721eb2d7afaadb338650d457f089563", func := "loop.example/g01182/laws.FnExactChangedBits", spec := "fnExactChangedBits", inPlace := ["internal/bytealg.IndexByte"], apart := false }
def FnExactChangedBitsSaid : Prop := fnExactChangedBitsRow.holds Try.pinned (OpenSpec.ofChange fnExactChangedBitsSpec)

/-- ITS FALSE NEIGHBOUR: 'it returns false'. Refute it at one input. -/
def fnExactChangedBitsWrong : ChangeSpec := { name := "fnExactChangedBits", fn := fun _ => fun
  | [d1, d2, d3, d4] => { results := [.lit (.bool false)], args := [d1, d2, d3, d4] }
  | _ => none }
def FnExactChangedBitsWrongFalsely : Prop := fnExactChangedBitsRow.holds Try.pinned (OpenSpec.ofChange fnExactChangedBitsWrong)

/-- 'laws.FnExactTrailCounts': WHATEVER THE INPUT: true; the input reads as it did. -/
def fnExactTrailCountsSpec : ChangeSpec := { name := "fnExactTrailCounts", fn := fun _ => fun
  | [d1, d2] => { results := [.lit (.bool true)], args := [d1, d2] }
  | _ => none }
def fnExactTrailCountsRow : OpenClaim := { program := "ytjaejplnmgfehaa", sum := "75c9e6a39ba675f5d1665eafb7ff66b95721eb2d7afaadb338650d457f089563", func := "loop.example/g01182/laws.FnExactTrailCounts", spec := "fnExactTrailCounts", inPlace := ["internal/bytealg.IndexByte"], apart := false }
def FnExactTrailCountsSaid : Prop := fnExactTrailCountsRow.holds Try.pinned (OpenSpec.ofChange fnExactTrailCountsSpec)

/-- ITS FALSE NEIGHBOUR: 'it returns false'. Refute it at one input. -/
def fnExactTrailCountsWrong : ChangeSpec := { name := "fnExactTrailCounts", fn := fun _ => fun
  | [d1, d2] => { results := [.lit (.bool false)], args := [d1, d2] }
  | _ => none }
def FnExactTrailCountsWrongFalsely : Prop := fnExactTrailCountsRow.holds Try.pinned (OpenSpec.ofChange fnExactTrailCountsWrong)

/- THE SECOND FORM. 'bulk': how many values and letters a reading holds, each counted each time it is reached (what is shared counts as often as it is met; a slice's spare places count too). A statement '..UptoSaid' is the law's where the arguments, and the package variables that the reading takes, are together of bulk at most 1048576: NARROWER than '..Said'. Prove '..Said' where nothing that the law and all that it calls make is longer than what came in: it says more and counts as full. Else prove '..UptoSaid'. A law counts once. -/
mutual
def uptoBulk {H : Type} : DataW H → Nat
  | .lit (.string bytes) => bytes.length + 1
  | .lit _ => 1
  | .nil => 1
  | .ptr d => uptoBulk d + 1
  | .slice elems spare => uptoBulkAll elems + uptoBulkAll spare + 1
  | .agg parts => uptoBulkAll parts + 1
  | .iface _ d => uptoBulk d + 1
  | .map entries => uptoBulkEntries entries + 1
  | .held _ => 1
def uptoBulkAll {H : Type} : List (DataW H) → Nat
  | [] => 0
  | d :: r => uptoBulk d + uptoBulkAll r
def uptoBulkEntries {H : Type} : List (Lit × DataW H) → Nat
  | [] => 0
  | x :: r => uptoBulkEntry x + uptoBulkEntries r
def uptoBulkEntry {H : Type} : Lit × DataW H → Nat
  | (.string bytes, d) => bytes.length + uptoBulk d + 1
  | (_, d) => uptoBulk d + 1
 end
def uptoSmall : (H : Type) → List (DataW H) → Bool := fun _ ds => decide (uptoBulkAll ds ≤ 1048576)
def OpenSpec.upto (s : _root_.Go.ChangeSpec) : _root_.Go.OpenSpec := { _root_.Go.OpenSpec.ofChange s with cond := some uptoSmall }

/-- 'laws.FnExactRoundOf', WHERE WHAT IT READS IS OF BULK AT MOST 1048576: true; the input reads as it did. -/
def fnExactRoundOfUptoRow : OpenClaim := { program := "ytjaejplnmgfehaa", sum := "75c9e6a39ba675f5d1665eafb7ff66b95721eb2d7afaadb338650d457f089563", func := "loop.example/g01182/laws.FnExactRoundOf", spec := "fnExactRoundOf", apart := false, narrowed := true }
def FnExactRoundOfUptoSaid : Prop := fnExactRoundOfUptoRow.holds Try.pinned (OpenSpec.upto fnExactRoundOfSpec)

/-- 'laws.FnExactBestStep', WHERE WHAT IT READS IS OF BULK AT MOST 1048576: true; the input reads as it did. -/
def fnExactBestStepUptoRow : OpenClaim := { program := "ytjaejplnmgfehaa", sum := "75c9e6a39ba675f5d1665eafb7ff66b95721eb2d7afaadb338650d457f089563", func := "loop.example/g01182/laws.FnExactBestStep", spec := "fnExactBestStep", inPlace := ["internal/bytealg.IndexByte"], apart := false, narrowed := true }
def FnExactBestStepUptoSaid : Prop := fnExactBestStepUptoRow.holds Try.pinned (OpenSpec.upto fnExactBestStepSpec)

/-- 'laws.FnExactStepCounts', WHERE WHAT IT READS IS OF BULK AT MOST 1048576: true; the input reads as it did. -/
def fnExactStepCountsUptoRow : OpenClaim := { program := "ytjaejplnmgfehaa", sum := "75c9e6a39ba675f5d1665eafb7ff66b95721eb2d7afaadb338650d457f089563", func := "loop.example/g01182/laws.FnExactStepCounts", spec := "fnExactStepCounts", inPlace := ["internal/bytealg.IndexByte"], apart := false, narrowed := true }
def FnExactStepCountsUptoSaid : Prop := fnExactStepCountsUptoRow.holds Try.pinned (OpenSpec.upto fnExactStepCountsSpec)

/-- 'laws.FnExactEncipher', WHERE WHAT IT READS IS OF BULK AT MOST 1048576: true; the input reads as it did. -/
def fnExactEncipherUptoRow : OpenClaim := { program := "ytjaejplnmgfehaa", sum := "75c9e6a39ba675f5d1665eafb7ff66b95721eb2d7afaadb338650d457f089563", func := "loop.example/g01182/laws.FnExactEncipher", spec := "fnExactEncipher", inPlace := ["internal/bytealg.IndexByte"], apart := false, narrowed := true }
def FnExactEncipherUptoSaid : Prop := fnExactEncipherUptoRow.holds Try.pinned (OpenSpec.upto fnExactEncipherSpec)

/-- 'laws.FnExactEncipherShort', WHERE WHAT IT READS IS OF BULK AT MOST 1048576: true; the input reads as it did. -/
def fnExactEncipherShortUptoRow : OpenClaim := { program := "ytjaejplnmgfehaa", sum := "75c9e6a39ba675f5d1665eafb7ff66b95721eb2d7afaadb338650d457f089563", func := "loop.example/g01182/laws.FnExactEncipherShort", spec := "fnExactEncipherShort", inPlace := ["internal/bytealg.IndexByte"], apart := false, narrowed := true }
def FnExactEncipherShortUptoSaid : Prop := fnExactEncipherShortUptoRow.holds Try.pinned (OpenSpec.upto fnExactEncipherShortSpec)

/-- 'laws.FnExactDecipher', WHERE WHAT IT READS IS OF BULK AT MOST 1048576: true; the input reads as it did. -/
def fnExactDecipherUptoRow : OpenClaim := { program := "ytjaejplnmgfehaa", sum := "75c9e6a39ba675f5d1665eafb7ff66b95721eb2d7afaadb338650d457f089563", func := "loop.example/g01182/laws.FnExactDecipher", spec := "fnExactDecipher", inPlace := ["internal/bytealg.IndexByte"], apart := false, narrowed := true }
def FnExactDecipherUptoSaid : Prop := fnExactDecipherUptoRow.holds Try.pinned (OpenSpec.upto fnExactDecipherSpec)

/-- 'laws.FnExactDecipherShort', WHERE WHAT IT READS IS OF BULK AT MOST 1048576: true; the input reads as it did. -/
def fnExactDecipherShortUptoRow : OpenClaim := { program := "ytjaejplnmgfehaa", sum := "75c9e6a39ba675f5d1665eafb7ff66b95721eb2d7afaadb338650d457f089563", func := "loop.example/g01182/laws.FnExactDecipherShort", spec := "fnExactDecipherShort", inPlace := ["internal/bytealg.IndexByte"], apart := false, narrowed := true }
def FnExactDecipherShortUptoSaid : Prop := fnExactDecipherShortUptoRow.holds Try.pinned (OpenSpec.upto fnExactDecipherShortSpec)

/-- 'laws.FnExactBestTrail', WHERE WHAT IT READS IS OF BULK AT MOST 1048576: true; the input reads as it did. -/
def fnExactBestTrailUptoRow : OpenClaim := { program := "ytjaejplnmgfehaa", sum := "75c9e6a39ba675f5d1665eafb7ff66b95721eb2d7afaadb338650d457f089563", func := "loop.example/g01182/laws.FnExactBestTrail", spec := "fnExactBestTrail", inPlace := ["internal/bytealg.IndexByte"], apart := false, narrowed := true }
def FnExactBestTrailUptoSaid : Prop := fnExactBestTrailUptoRow.holds Try.pinned (OpenSpec.upto fnExactBestTrailSpec)

/-- 'laws.FnExactPairsInByte', WHERE WHAT IT READS IS OF BULK AT MOST 1048576: true; the input reads as it did. -/
def fnExactPairsInByteUptoRow : OpenClaim := { program := "ytjaejplnmgfehaa", sum := "75c9e6a39ba675f5d1665eafb7ff66b95721eb2d7afaadb338650d457f089563", func := "loop.example/g01182/laws.FnExactPairsInByte", spec := "fnExactPairsInByte", inPlace := ["internal/bytealg.IndexByte"], apart := false, narrowed := true }
def FnExactPairsInByteUptoSaid : Prop := fnExactPairsInByteUptoRow.holds Try.pinned (OpenSpec.upto fnExactPairsInByteSpec)

/-- 'laws.FnExactEncipherAll', WHERE WHAT IT READS IS OF BULK AT MOST 1048576: true; the input reads as it did. -/
def fnExactEncipherAllUptoRow : OpenClaim := { program := "ytjaejplnmgfehaa", sum := "75c9e6a39ba675f5d1665eafb7ff66b95721eb2d7afaadb338650d457f089563", func := "loop.example/g01182/laws.FnExactEncipherAll", spec := "fnExactEncipherAll", inPlace := ["internal/bytealg.IndexByte"], apart := false, narrowed := true }
def FnExactEncipherAllUptoSaid : Prop := fnExactEncipherAllUptoRow.holds Try.pinned (OpenSpec.upto fnExactEncipherAllSpec)

/-- 'laws.FnExactChangedBits', WHERE WHAT IT READS IS OF BULK AT MOST 1048576: true; the input reads as it did. -/
def fnExactChangedBitsUptoRow : OpenClaim := { program := "ytjaejplnmgfehaa", sum := "75c9e6a39ba675f5d1665eafb7ff66b95721eb2d7afaadb338650d457f089563", func := "loop.example/g01182/laws.FnExactChangedBits", spec := "fnExactChangedBits", inPlace := ["internal/bytealg.IndexByte"], apart := false, narrowed := true }
def FnExactChangedBitsUptoSaid : Prop := fnExactChangedBitsUptoRow.holds Try.pinned (OpenSpec.upto fnExactChangedBitsSpec)

/-- 'laws.FnExactTrailCounts', WHERE WHAT IT READS IS OF BULK AT MOST 1048576: true; the input reads as it did. -/
def fnExactTrailCountsUptoRow : OpenClaim := { program := "ytjaejplnmgfehaa", sum := "75c9e6a39ba675f5d1665eafb7ff66b95721eb2d7afaadb338650d457f089563", func := "loop.example/g01182/laws.FnExactTrailCounts", spec := "fnExactTrailCounts", inPlace := ["internal/bytealg.IndexByte"], apart := false, narrowed := true }
def FnExactTrailCountsUptoSaid : Prop := fnExactTrailCountsUptoRow.holds Try.pinned (OpenSpec.upto fnExactTrailCountsSpec)

end Rows
end Go.Proofs.Ytjaejplnmgfehaa
