/- trial -/
import Derived.Test.YtogpagpoadeeiaaTypes
import Derived.Test.YtogpagpoadeeiaaAbsJ
namespace Go.Proofs.Ytogpagpoadeeiaa
open Go.Abs

def cntB (f : Nat → UInt8) (k : Nat) : Nat := ((List.range k).filter fun i => f i != 0).length

theorem cntB_succ (f : Nat → UInt8) (k : Nat) : cntB f (k + 1) = cntB f k + if f k != 0 then 1 else 0 := by
  unfold cntB
  rw [List.range_succ, List.filter_append, List.length_append]
  congr 1
  by_cases h : f k != 0 <;> simp [h]

theorem cntB_le (f : Nat → UInt8) (k : Nat) : cntB f k ≤ k := by
  unfold cntB; have := List.length_filter_le (fun i => f i != 0) (List.range k); simpa using this

set_option maxHeartbeats 400000 in
theorem act_spec (f : Nat → UInt8) (h : List Blk) : AC Try.prog 15 [.agg (Bs 16 f).toArray] h (.int .i64 (cntB f 16)) h := by
  refine AC_begin (fun _ _ => Try.call15 _ _) Try.func15 rfl Try.ntmps15 Try.results15 (fun hwf => ?_)
  simp only [List.length_cons, List.length_nil, Nat.reduceAdd, Nat.reduceSub, List.replicate, List.cons_append, List.nil_append]
  (repeat (first | (refine WA_seq (WA_region ?_); simp (disch := first | omega | decide) only [go_sem]) | refine WA_seq ?_ | (refine WA_region ?_; simp (disch := first | omega | decide) only [go_sem]) | refine WA_block ?_ | (refine WA_skip ?_; try simp only [go_sem]) | (refine WA_exit ?_; simp (disch := first | omega | decide) only [go_sem]) | (refine WA_ret ?_; try simp only [go_sem]) | (refine WA_cond_t rfl ?_ ?_; focus (first | rfl | exact decide_eq_true (by omega) | exact beq_t (by omega) | exact bne_t (by omega) | assumption)) | (refine WA_cond_f rfl ?_ ?_; focus (first | rfl | exact decide_eq_false (by omega) | exact beq_f (by omega) | exact bne_f (by omega) | assumption))))
  refine WA_forD (fun k => ⟨[.agg (Bs 16 f).toArray, pt h.length 0, J, .int .i64 (cntB f k), .int .i64 k, J, J, J, J, J, J, J, J, J, J, J], h ++ [⟨Bs 16 f, true⟩]⟩) 16 ?_ ?_ ?_
  · (refine Drop_slots (by first | exact Nat.le_refl _ | simp) ?_; (try simp only [JL_same, JL_J, JL_nil, Int.natCast_add, Int.natCast_one, Int.natCast_zero, Int.cast_ofNat_Int, Nat.add_zero, Bool.false_eq_true, if_false, if_true]); (try exact JL_refl _))
  · intro k hk
    have := cntB_le f k
    (repeat (first | (refine WA_seq (WA_region ?_); simp (disch := first | omega | decide) only [go_sem]) | refine WA_seq ?_ | (refine WA_region ?_; simp (disch := first | omega | decide) only [go_sem]) | refine WA_block ?_ | (refine WA_skip ?_; try simp only [go_sem]) | (refine WA_exit ?_; simp (disch := first | omega | decide) only [go_sem]) | (refine WA_ret ?_; try simp only [go_sem]) | (refine WA_cond_t rfl ?_ ?_; focus (first | rfl | exact decide_eq_true (by omega) | exact beq_t (by omega) | exact bne_t (by omega) | assumption)) | (refine WA_cond_f rfl ?_ ?_; focus (first | rfl | exact decide_eq_false (by omega) | exact beq_f (by omega) | exact bne_f (by omega) | assumption))))
    refine WA_cond rfl (fun hb => ?_) (fun hb => ?_)
    · (repeat (first | (refine WA_seq (WA_region ?_); simp (disch := first | omega | decide) only [go_sem]) | refine WA_seq ?_ | (refine WA_region ?_; simp (disch := first | omega | decide) only [go_sem]) | refine WA_block ?_ | (refine WA_skip ?_; try simp only [go_sem]) | (refine WA_exit ?_; simp (disch := first | omega | decide) only [go_sem]) | (refine WA_ret ?_; try simp only [go_sem]) | (refine WA_cond_t rfl ?_ ?_; focus (first | rfl | exact decide_eq_true (by omega) | exact beq_t (by omega) | exact bne_t (by omega) | assumption)) | (refine WA_cond_f rfl ?_ ?_; focus (first | rfl | exact decide_eq_false (by omega) | exact beq_f (by omega) | exact bne_f (by omega) | assumption))))
      (refine Drop_slots (by first | exact Nat.le_refl _ | simp) ?_; (try simp only [JL_same, JL_J, JL_nil, Int.natCast_add, Int.natCast_one, Int.natCast_zero, Int.cast_ofNat_Int, Nat.add_zero, Bool.false_eq_true, if_false, if_true, cntB_succ, hb]); (try exact JL_refl _))
    · (repeat (first | (refine WA_seq (WA_region ?_); simp (disch := first | omega | decide) only [go_sem]) | refine WA_seq ?_ | (refine WA_region ?_; simp (disch := first | omega | decide) only [go_sem]) | refine WA_block ?_ | (refine WA_skip ?_; try simp only [go_sem]) | (refine WA_exit ?_; simp (disch := first | omega | decide) only [go_sem]) | (refine WA_ret ?_; try simp only [go_sem]) | (refine WA_cond_t rfl ?_ ?_; focus (first | rfl | exact decide_eq_true (by omega) | exact beq_t (by omega) | exact bne_t (by omega) | assumption)) | (refine WA_cond_f rfl ?_ ?_; focus (first | rfl | exact decide_eq_false (by omega) | exact beq_f (by omega) | exact bne_f (by omega) | assumption))))
      (refine Drop_slots (by first | exact Nat.le_refl _ | simp) ?_; (try simp only [JL_same, JL_J, JL_nil, Int.natCast_add, Int.natCast_one, Int.natCast_zero, Int.cast_ofNat_Int, Nat.add_zero, Bool.false_eq_true, if_false, if_true, cntB_succ, hb]); (try exact JL_refl _))
  · (repeat (first | (refine WA_seq (WA_region ?_); simp (disch := first | omega | decide) only [go_sem]) | refine WA_seq ?_ | (refine WA_region ?_; simp (disch := first | omega | decide) only [go_sem]) | refine WA_block ?_ | (refine WA_skip ?_; try simp only [go_sem]) | (refine WA_exit ?_; simp (disch := first | omega | decide) only [go_sem]) | (refine WA_ret ?_; try simp only [go_sem]) | (refine WA_cond_t rfl ?_ ?_; focus (first | rfl | exact decide_eq_true (by omega) | exact beq_t (by omega) | exact bne_t (by omega) | assumption)) | (refine WA_cond_f rfl ?_ ?_; focus (first | rfl | exact decide_eq_false (by omega) | exact beq_f (by omega) | exact bne_f (by omega) | assumption))))
    refine ret_same (.inr rfl) ?_ rfl
    simp (disch := first | omega | decide) only [go_sem]

end Go.Proofs.Ytogpagpoadeeiaa
