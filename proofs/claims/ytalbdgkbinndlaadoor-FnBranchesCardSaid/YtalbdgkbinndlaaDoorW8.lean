/- MixBlock. -/
import Derived.Test.YtalbdgkbinndlaaDoorAbsSh
import Derived.Test.YtalbdgkbinndlaaDoorW7
namespace Go.Proofs.YtalbdgkbinndlaaDoor
set_option linter.unusedSimpArgs false
set_option linter.unusedVariables false
set_option maxRecDepth 20000
set_option maxHeartbeats 1000000
open Go.Abs

def zeroF : Nat → UInt8 := fun _ => 0
theorem fieldB_nat {m : Int} (hf : fieldB m.toNat = true) : ∃ n : Nat, m = n ∧ fieldB n = true ∧ 256 ≤ n ∧ n < 512 := by
  have hf' := hf
  unfold fieldB at hf
  rw [Bool.and_eq_true, Bool.and_eq_true, decide_eq_true_eq, decide_eq_true_eq] at hf
  exact ⟨m.toNat, by omega, hf', by omega, by omega⟩
theorem mixBlockI_ac (m : Int) (a b : Nat → UInt8) (h : List Blk) : AC Tryd.prog 10 [.int .i64 m, .agg (Bs 16 a).toArray, .agg (Bs 16 b).toArray] h (.tuple #[.agg (Bs 16 (if fieldB m.toNat then mixF m.toNat a b else zeroF)).toArray, .int .i64 (if fieldB m.toNat then 0 else 1)]) h := by
  cases hf : fieldB m.toNat
  · (refine AC_begin (fun _ _ => Tryd.call10 _ _) Tryd.func10 rfl Tryd.ntmps10 Tryd.results10 (fun hwf => ?_); simp only [List.length_cons, List.length_nil, Nat.reduceAdd, Nat.reduceSub, List.replicate, List.cons_append, List.nil_append])
    (refine sW @hf @isField_ac ?_)
    (exact sR @zeroF.eq_1)
  · obtain ⟨n, rfl, hn, h0, h1⟩ := fieldB_nat hf
    (refine AC_begin (fun _ _ => Tryd.call10 _ _) Tryd.func10 rfl Tryd.ntmps10 Tryd.results10 (fun hwf => ?_); simp only [List.length_cons, List.length_nil, Nat.reduceAdd, Nat.reduceSub, List.replicate, List.cons_append, List.nil_append])
    (refine sW @hn (And.intro @isField_ac (mixI_ac h0 h1)) ?_)
    (exact sR (And.intro @Int.toNat_natCast @hn))

end Go.Proofs.YtalbdgkbinndlaaDoor
