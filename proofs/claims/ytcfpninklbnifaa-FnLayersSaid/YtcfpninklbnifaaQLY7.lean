/- A part of the proof of FnLayers. -/
import Derived.Test.YtcfpninklbnifaaQLYH
/- Halves joined, the right half, the exclusive or. -/
namespace Go.Proofs.Ytcfpninklbnifaa
set_option linter.unusedSimpArgs false
set_option linter.unusedVariables false
set_option maxRecDepth 20000
set_option maxHeartbeats 1000000
open Go.Abs

def xorF (f g : Nat → UInt8) : Nat → UInt8 := fun i => f i ^^^ g i
end Go.Proofs.Ytcfpninklbnifaa
/- Active bytes: both sides. -/
namespace Go.Proofs.Ytcfpninklbnifaa
set_option linter.unusedSimpArgs false
set_option linter.unusedVariables false
set_option maxRecDepth 20000
set_option maxHeartbeats 1000000
open Go.Abs

def cntA (f : Nat → UInt8) (k : Nat) : Nat := ((List.range k).filter fun i => f i != 0).length

theorem cntA_succ (f : Nat → UInt8) (k : Nat) : cntA f (k + 1) = cntA f k + if f k != 0 then 1 else 0 := by
  unfold cntA
  rw [List.range_succ, List.filter_append, List.length_append]
  congr 1
  by_cases h : f k != 0 <;> simp [h]

theorem cntA_le (f : Nat → UInt8) (k : Nat) : cntA f k ≤ k := by
  unfold cntA; have := List.length_filter_le (fun i => f i != 0) (List.range k); simpa using this

set_option maxHeartbeats 400000 in
theorem actS_ac (f : Nat → UInt8) (h : List Blk) : AC Try.prog 27 [.agg (Bs 16 f).toArray] h (.int .i64 (cntA f 16)) h := by
  (refine AC_begin (fun _ _ => Try.call27 _ _) Try.func27 rfl Try.ntmps27 Try.results27 (fun hwf => ?_); simp only [List.length_cons, List.length_nil, Nat.reduceAdd, Nat.reduceSub, List.replicate, List.cons_append, List.nil_append])
  (repeat (first | ((first | (refine And.intro ?_ ?_; focus exact PLA) | refine WA_seq (WA_region ?_) | refine WA_region ?_ | refine WA_exit ?_); try simp (maxSteps := 1000000) (disch := first | omega | rfl | decide | (simp only [List.length_cons, List.length_nil, List.length_append, LV] <;> omega)) only [go_sem, Nat.reduceAdd, Int.reduceAdd, Int.reduceSub, Int.reduceMul, Bool.not_true, Bool.not_false]) | refine WA_seq ?_ | refine WA_block ?_ | (refine WA_skip ?_; try simp only [go_sem]) | (refine WA_ret ?_; try simp only [go_sem]) | refine WA_ct rfl ?_ | refine WA_cf rfl ?_))
  refine WA_forD (fun k => ⟨[.agg (Bs 16 f).toArray, pt h.length 0, J, .int .i64 (cntA f k), .int .i64 k, J, J, J, J, J, J, J, J, J, J, J], h ++ [⟨Bs 16 f, true⟩]⟩) 16 ?_ ?_ ?_
  · (refine Drop_slots (by first | exact Nat.le_refl _ | simp) ?_; focus ((try simp only [JL_same, JL_J, JL_nil, Int.reduceAdd, Nat.sub_sub, Int.natCast_add, Int.natCast_one, Int.natCast_zero, Int.cast_ofNat_Int, Nat.add_zero, Bool.false_eq_true, if_false, if_true]); (try exact JL_refl _)))
  · intro k hk
    have := cntA_le f k
    (repeat (first | ((first | (refine And.intro ?_ ?_; focus exact PLA) | refine WA_seq (WA_region ?_) | refine WA_region ?_ | refine WA_exit ?_); try simp (maxSteps := 1000000) (disch := first | omega | rfl | decide | (simp only [List.length_cons, List.length_nil, List.length_append, LV] <;> omega)) only [go_sem, Nat.reduceAdd, Int.reduceAdd, Int.reduceSub, Int.reduceMul, Bool.not_true, Bool.not_false]) | refine WA_seq ?_ | refine WA_block ?_ | (refine WA_skip ?_; try simp only [go_sem]) | (refine WA_ret ?_; try simp only [go_sem]) | refine WA_ct rfl ?_ | refine WA_cf rfl ?_))
    refine WA_cond rfl (fun hb => ?_) (fun hb => ?_)
    · (repeat (first | ((first | (refine And.intro ?_ ?_; focus exact PLA) | refine WA_seq (WA_region ?_) | refine WA_region ?_ | refine WA_exit ?_); try simp (maxSteps := 1000000) (disch := first | omega | rfl | decide | (simp only [List.length_cons, List.length_nil, List.length_append, LV] <;> omega)) only [go_sem, Nat.reduceAdd, Int.reduceAdd, Int.reduceSub, Int.reduceMul, Bool.not_true, Bool.not_false]) | refine WA_seq ?_ | refine WA_block ?_ | (refine WA_skip ?_; try simp only [go_sem]) | (refine WA_ret ?_; try simp only [go_sem]) | refine WA_ct rfl ?_ | refine WA_cf rfl ?_))
      (refine Drop_slots (by first | exact Nat.le_refl _ | simp) ?_; focus ((try simp only [JL_same, JL_J, JL_nil, Int.reduceAdd, Nat.sub_sub, Int.natCast_add, Int.natCast_one, Int.natCast_zero, Int.cast_ofNat_Int, Nat.add_zero, Bool.false_eq_true, if_false, if_true, cntA_succ, hb]); (try exact JL_refl _)))
    · (repeat (first | ((first | (refine And.intro ?_ ?_; focus exact PLA) | refine WA_seq (WA_region ?_) | refine WA_region ?_ | refine WA_exit ?_); try simp (maxSteps := 1000000) (disch := first | omega | rfl | decide | (simp only [List.length_cons, List.length_nil, List.length_append, LV] <;> omega)) only [go_sem, Nat.reduceAdd, Int.reduceAdd, Int.reduceSub, Int.reduceMul, Bool.not_true, Bool.not_false]) | refine WA_seq ?_ | refine WA_block ?_ | (refine WA_skip ?_; try simp only [go_sem]) | (refine WA_ret ?_; try simp only [go_sem]) | refine WA_ct rfl ?_ | refine WA_cf rfl ?_))
      (refine Drop_slots (by first | exact Nat.le_refl _ | simp) ?_; focus ((try simp only [JL_same, JL_J, JL_nil, Int.reduceAdd, Nat.sub_sub, Int.natCast_add, Int.natCast_one, Int.natCast_zero, Int.cast_ofNat_Int, Nat.add_zero, Bool.false_eq_true, if_false, if_true, cntA_succ, hb]); (try exact JL_refl _)))
  · (repeat (first | ((first | (refine And.intro ?_ ?_; focus exact PLA) | refine WA_seq (WA_region ?_) | refine WA_region ?_ | refine WA_exit ?_); try simp (maxSteps := 1000000) (disch := first | omega | rfl | decide | (simp only [List.length_cons, List.length_nil, List.length_append, LV] <;> omega)) only [go_sem, Nat.reduceAdd, Int.reduceAdd, Int.reduceSub, Int.reduceMul, Bool.not_true, Bool.not_false]) | refine WA_seq ?_ | refine WA_block ?_ | (refine WA_skip ?_; try simp only [go_sem]) | (refine WA_ret ?_; try simp only [go_sem]) | refine WA_ct rfl ?_ | refine WA_cf rfl ?_))
    refine ret_same (.inr rfl) ?_ rfl
    simp (maxSteps := 1000000) (disch := first | omega | rfl | decide | (simp only [List.length_cons, List.length_nil, List.length_append, LV] <;> omega)) only [go_sem, Nat.reduceAdd, Int.reduceAdd, Int.reduceSub, Int.reduceMul, Bool.not_true, Bool.not_false]

set_option maxHeartbeats 400000 in
theorem actI_ac (f : Nat → UInt8) (h : List Blk) : AC Try.prog 26 [.agg (Bs 16 f).toArray] h (.int .i64 (cntA f 16)) h := by
  (refine AC_begin (fun _ _ => Try.call26 _ _) Try.func26 rfl Try.ntmps26 Try.results26 (fun hwf => ?_); simp only [List.length_cons, List.length_nil, Nat.reduceAdd, Nat.reduceSub, List.replicate, List.cons_append, List.nil_append])
  (repeat (first | ((first | (refine And.intro ?_ ?_; focus exact PLA) | refine WA_seq (WA_region ?_) | refine WA_region ?_ | refine WA_exit ?_); try simp (maxSteps := 1000000) (disch := first | omega | rfl | decide | (simp only [List.length_cons, List.length_nil, List.length_append, LV] <;> omega)) only [go_sem, Nat.reduceAdd, Int.reduceAdd, Int.reduceSub, Int.reduceMul, Bool.not_true, Bool.not_false]) | refine WA_seq ?_ | refine WA_block ?_ | (refine WA_skip ?_; try simp only [go_sem]) | (refine WA_ret ?_; try simp only [go_sem]) | refine WA_ct rfl ?_ | refine WA_cf rfl ?_))
  refine WA_forD (fun k => ⟨[.agg (Bs 16 f).toArray, pt h.length 0, .int .i64 0, .int .i64 (cntA f k), J, J, .agg (Bs 16 f).toArray, .int .i64 k, J, J, J, J, J, J, J, J], h ++ [⟨Bs 16 f, true⟩]⟩) 16 ?_ ?_ ?_
  · (refine Drop_slots (by first | exact Nat.le_refl _ | simp) ?_; focus ((try simp only [JL_same, JL_J, JL_nil, Int.reduceAdd, Nat.sub_sub, Int.natCast_add, Int.natCast_one, Int.natCast_zero, Int.cast_ofNat_Int, Nat.add_zero, Bool.false_eq_true, if_false, if_true]); (try exact JL_refl _)))
  · intro k hk
    have := cntA_le f k
    (repeat (first | ((first | (refine And.intro ?_ ?_; focus exact PLA) | refine WA_seq (WA_region ?_) | refine WA_region ?_ | refine WA_exit ?_); try simp (maxSteps := 1000000) (disch := first | omega | rfl | decide | (simp only [List.length_cons, List.length_nil, List.length_append, LV] <;> omega)) only [go_sem, Nat.reduceAdd, Int.reduceAdd, Int.reduceSub, Int.reduceMul, Bool.not_true, Bool.not_false]) | refine WA_seq ?_ | refine WA_block ?_ | (refine WA_skip ?_; try simp only [go_sem]) | (refine WA_ret ?_; try simp only [go_sem]) | refine WA_ct rfl ?_ | refine WA_cf rfl ?_))
    refine WA_cond rfl (fun hb => ?_) (fun hb => ?_)
    · (repeat (first | ((first | (refine And.intro ?_ ?_; focus exact PLA) | refine WA_seq (WA_region ?_) | refine WA_region ?_ | refine WA_exit ?_); try simp (maxSteps := 1000000) (disch := first | omega | rfl | decide | (simp only [List.length_cons, List.length_nil, List.length_append, LV] <;> omega)) only [go_sem, Nat.reduceAdd, Int.reduceAdd, Int.reduceSub, Int.reduceMul, Bool.not_true, Bool.not_false]) | refine WA_seq ?_ | refine WA_block ?_ | (refine WA_skip ?_; try simp only [go_sem]) | (refine WA_ret ?_; try simp only [go_sem]) | refine WA_ct rfl ?_ | refine WA_cf rfl ?_))
      (refine Drop_slots (by first | exact Nat.le_refl _ | simp) ?_; focus ((try simp only [JL_same, JL_J, JL_nil, Int.reduceAdd, Nat.sub_sub, Int.natCast_add, Int.natCast_one, Int.natCast_zero, Int.cast_ofNat_Int, Nat.add_zero, Bool.false_eq_true, if_false, if_true, cntA_succ, hb]); (try exact JL_refl _)))
    · (repeat (first | ((first | (refine And.intro ?_ ?_; focus exact PLA) | refine WA_seq (WA_region ?_) | refine WA_region ?_ | refine WA_exit ?_); try simp (maxSteps := 1000000) (disch := first | omega | rfl | decide | (simp only [List.length_cons, List.length_nil, List.length_append, LV] <;> omega)) only [go_sem, Nat.reduceAdd, Int.reduceAdd, Int.reduceSub, Int.reduceMul, Bool.not_true, Bool.not_false]) | refine WA_seq ?_ | refine WA_block ?_ | (refine WA_skip ?_; try simp only [go_sem]) | (refine WA_ret ?_; try simp only [go_sem]) | refine WA_ct rfl ?_ | refine WA_cf rfl ?_))
      (refine Drop_slots (by first | exact Nat.le_refl _ | simp) ?_; focus ((try simp only [JL_same, JL_J, JL_nil, Int.reduceAdd, Nat.sub_sub, Int.natCast_add, Int.natCast_one, Int.natCast_zero, Int.cast_ofNat_Int, Nat.add_zero, Bool.false_eq_true, if_false, if_true, cntA_succ, hb]); (try exact JL_refl _)))
  · (repeat (first | ((first | (refine And.intro ?_ ?_; focus exact PLA) | refine WA_seq (WA_region ?_) | refine WA_region ?_ | refine WA_exit ?_); try simp (maxSteps := 1000000) (disch := first | omega | rfl | decide | (simp only [List.length_cons, List.length_nil, List.length_append, LV] <;> omega)) only [go_sem, Nat.reduceAdd, Int.reduceAdd, Int.reduceSub, Int.reduceMul, Bool.not_true, Bool.not_false]) | refine WA_seq ?_ | refine WA_block ?_ | (refine WA_skip ?_; try simp only [go_sem]) | (refine WA_ret ?_; try simp only [go_sem]) | refine WA_ct rfl ?_ | refine WA_cf rfl ?_))
    refine ret_same (.inr rfl) ?_ rfl
    simp (maxSteps := 1000000) (disch := first | omega | rfl | decide | (simp only [List.length_cons, List.length_nil, List.length_append, LV] <;> omega)) only [go_sem, Nat.reduceAdd, Int.reduceAdd, Int.reduceSub, Int.reduceMul, Bool.not_true, Bool.not_false]

end Go.Proofs.Ytcfpninklbnifaa
