/- A part of the proof of FnTrails. -/
import Derived.Test.YtenkjbkcdcionaaGreatQTLH
/- Halves joined, the right half, the exclusive or. -/
namespace Go.Proofs.YtenkjbkcdcionaaGreat
set_option linter.unusedSimpArgs false
set_option linter.unusedVariables false
set_option maxRecDepth 20000
set_option maxHeartbeats 1000000
open Go.Abs

def xorF (f g : Nat → UInt8) : Nat → UInt8 := fun i => f i ^^^ g i
end Go.Proofs.YtenkjbkcdcionaaGreat
/- Active bytes: both sides. -/
namespace Go.Proofs.YtenkjbkcdcionaaGreat
set_option linter.unusedSimpArgs false
set_option linter.unusedVariables false
set_option maxRecDepth 20000
set_option maxHeartbeats 1000000
open Go.Abs

def cntA (f : Nat → UInt8) (k : Nat) : Nat := ((List.range k).filter fun i => f i != 0).length

theorem cntA_succ (f : Nat → UInt8) (k : Nat) : cntA f (k + 1) = cntA f k + if f k != 0 then 1 else 0 := by
  unfold cntA
  rw [List.range_succ, List.filter_append, List.length_append]
  congr 1
  by_cases h : f k != 0 <;> simp [h]

theorem cntA_le (f : Nat → UInt8) (k : Nat) : cntA f k ≤ k := by
  unfold cntA; have := List.length_filter_le (fun i => f i != 0) (List.range k); simpa using this

set_option maxHeartbeats 400000 in
theorem actI_ac (f : Nat → UInt8) (h : List Blk) : AC Tryz.prog 23 [.agg (Bs 16 f).toArray] h (.int .i64 (cntA f 16)) h := by
  (refine AC_begin (fun _ _ => Tryz.call23 _ _) Tryz.func23 rfl Tryz.ntmps23 Tryz.results23 (fun hwf => ?_); simp only [LCN, Nat.reduceAdd, Nat.reduceSub, List.replicate])
  (refine sN0 ?_)
  refine WA_forD (fun k => ⟨[.agg (Bs 16 f).toArray, pt h.length 0, .int .i64 0, .int .i64 (cntA f k), J, J, .agg (Bs 16 f).toArray, .int .i64 k, J, J, J, J, J, J, J, J], h ++ [⟨Bs 16 f, true⟩]⟩) 16 ?_ ?_ ?_
  · (exact sS0)
  · intro k hk
    have := cntA_le f k
    (refine sN0 ?_)
    refine WA_cond rfl (fun hb => ?_) (fun hb => ?_)
    · (refine sN0 ?_)
      (exact sS (And.intro @cntA_succ @hb))
    · (refine sN0 ?_)
      (exact sS (And.intro @cntA_succ @hb))
  · (refine sN0 ?_)
    refine ret_same (.inr rfl) ?_ rfl
    simp (maxSteps := 1000000) (disch := first | omega | rfl | decide | (simp only [LX] <;> omega)) only [go_sem, Nat.reduceAdd, Int.reduceAdd, Int.reduceSub, Int.reduceMul, BNS]

end Go.Proofs.YtenkjbkcdcionaaGreat
