/- A part of the proof of FnMatrices. -/
import Derived.Test.YtkgiocoiojdgfaaW6
import Derived.Test.YtkgiocoiojdgfaaAbsX
import Derived.Test.YtkgiocoiojdgfaaAbsZ
import Derived.Test.YtkgiocoiojdgfaaAbsQ
import Derived.Test.YtkgiocoiojdgfaaAbsY
namespace Go.Abs
theorem WA_ct {P : Program} {Q : Exit → AS → Prop} {s : AS} {n0 : Nat} {c : Operand} {x y : Code} {b : Bool} (hc : ev s.t c = .bool b) (h : WA P n0 x Q s) (hb : b = true := by first | with_reducible rfl | with_reducible exact beq_self_eq_true _ | exact decide_eq_true (by omega) | exact beq_t (by omega) | exact bne_t (by omega) | assumption) : WA P n0 (.cond c x y) Q s := WA_cond_t hc hb h
theorem WA_cf {P : Program} {Q : Exit → AS → Prop} {s : AS} {n0 : Nat} {c : Operand} {x y : Code} {b : Bool} (hc : ev s.t c = .bool b) (h : WA P n0 y Q s) (hb : b = false := by first | with_reducible rfl | with_reducible exact bne_self_eq_false _ | exact decide_eq_false (by omega) | exact beq_f (by omega) | exact bne_f (by omega) | assumption) : WA P n0 (.cond c x y) Q s := WA_cond_f hc hb h
end Go.Abs
/- Powers, inverses, mixing a block. -/
namespace Go.Proofs.Ytkgiocoiojdgfaa
set_option linter.unusedSimpArgs false
set_option linter.unusedVariables false
set_option maxRecDepth 20000
set_option maxHeartbeats 1000000
open Go.Abs

/-- The product of two bytes modulo m. -/
def tm (m : Nat) (a b : UInt8) : UInt8 := UInt8.ofNat (mulN m a.toNat b.toNat)
/-- Squared i times. -/
def sqP (m : Nat) (a : UInt8) : Nat → UInt8
  | 0 => a
  | i + 1 => tm m (sqP m a i) (sqP m a i)
def poP (m : Nat) (a : UInt8) (e : Nat) : Nat → UInt8
  | 0 => 1
  | i + 1 => if e.testBit i then tm m (poP m a e i) (sqP m a i) else poP m a e i
def po (m : Nat) (a : UInt8) (e : Nat) : UInt8 := poP m a e (blen e)
def inv (m : Nat) (a : UInt8) : UInt8 := po m a 254
theorem poP_t {m : Nat} {a : UInt8} {e i : Nat} (h : e.testBit i = true) : poP m a e (i + 1) = tm m (poP m a e i) (sqP m a i) := by rw [poP, if_pos h]
theorem poP_f {m : Nat} {a : UInt8} {e i : Nat} (h : e.testBit i = false) : poP m a e (i + 1) = poP m a e i := by rw [poP, h]; rfl

theorem tmS_ac {m : Nat} (h0 : 256 ≤ m) (h1 : m < 512) (a b : UInt8) (h : List Blk) : AC Try.prog 134 [.int .i64 m, B a, B b] h (B (tm m a b)) h := timesS_ac h0 h1 a b h
theorem tmI_ac {m : Nat} (h0 : 256 ≤ m) (h1 : m < 512) (a b : UInt8) (h : List Blk) : AC Try.prog 132 [.int .i64 m, B a, B b] h (B (tm m a b)) h := timesI_ac h0 h1 a b h
theorem poS_ac {m : Nat} (h0 : 256 ≤ m) (h1 : m < 512) (a : UInt8) {e : Nat} (he : e < 9223372036854775808) (h : List Blk) : AC Try.prog 145 [.int .i64 m, B a, .int .i64 e] h (B (po m a e)) h := by
  (refine AC_begin (fun _ _ => Try.call145 _ _) Try.func145 rfl Try.ntmps145 Try.results145 (fun hwf => ?_); simp only [List.length_cons, List.length_nil, Nat.reduceAdd, Nat.reduceSub, List.replicate, List.cons_append, List.nil_append])
  (repeat (first | ((first | (refine And.intro ?_ ?_; focus (first | exact plain_agg (by simp only [go_sem]) | exact plain_two (by first | exact plain_agg (by simp only [go_sem]) | rfl) rfl | rfl)) | refine WA_seq (WA_region ?_) | refine WA_region ?_ | refine WA_exit ?_); try simp (maxSteps := 1000000) (disch := first | omega | rfl | decide | (simp only [List.length_cons, List.length_nil, List.length_append, Bs_length, Is_length, Vs_length, Bl_length, Il_length] <;> omega)) only [go_sem, Nat.reduceAdd, Int.reduceAdd, Int.reduceSub, Int.reduceMul, Bool.not_true, Bool.not_false]) | refine WA_seq ?_ | refine WA_block ?_ | (refine WA_skip ?_; try simp only [go_sem]) | (refine WA_ret ?_; try simp only [go_sem]) | refine WA_ct rfl ?_ | refine WA_cf rfl ?_))
  refine WA_forH (fun k => [(1, B (sqP m a k)), (2, .int .i64 ((e >>> k : Nat))), (7, B (poP m a e k)), (8, J), (9, J), (10, J), (11, J), (12, J), (13, J), (14, J), (15, J), (16, J), (17, J), (18, J), (19, J), (20, J), (21, J), (22, J)]) (fun k => h) (blen e) ?_ ?_ ?_ <;> (try simp only [patT_cons, patT_nil, patL_cons, patL_nil, list_set_zero, list_set_succ, blk_set_zero, blk_set_succ])
  · (refine Drop_slots (by first | exact Nat.le_refl _ | simp) ?_; focus ((try simp only [JL_same, JL_J, JL_nil, Int.reduceAdd, Nat.sub_sub, Int.natCast_add, Int.natCast_one, Int.natCast_zero, Int.cast_ofNat_Int, Nat.add_zero, Bool.false_eq_true, if_false, if_true, sqP, poP, Nat.shiftRight_zero]); (try exact JL_refl _)))
  · intro k hk
    have hp := blen_pos hk
    have hs := Nat.shiftRight_le e k
    have hw := wrap_N (n := e >>> (k+1)) (Nat.lt_of_le_of_lt (Nat.shiftRight_le e (k + 1)) he)
    cases hb : e.testBit k
    · (repeat (first | ((first | (refine And.intro ?_ ?_; focus (first | exact plain_agg (by simp only [go_sem]) | exact plain_two (by first | exact plain_agg (by simp only [go_sem]) | rfl) rfl | rfl)) | ((first | with_reducible apply callB_i | with_reducible apply callK_intro | with_reducible apply callQ_i); (focus (first | assumption | (with_reducible apply tmS_ac h0 h1 <;> (first | assumption | rfl | (simp (disch := omega) only [go_sem]; first | done | rfl) | omega | decide | (simp; done))))); (try (focus (refine WP.mk ?_ ?_; (focus ((repeat (first | exact trivial | (refine And.intro ?_ ?_; (focus first | exact plainV_wf rfl | (refine plainV_wf (plain_agg ?_); simp only [go_sem]; done) | (simp only [wfV, wf1, wfC, List.length_append, List.length_cons, List.length_nil]; omega))))))); (focus (first | rfl | (refine plain_agg ?_; simp only [go_sem]; done) | (refine plain_two ?_ ?_ <;> first | rfl | (refine plain_agg ?_; simp only [go_sem]; done)))))))) | refine WA_seq (WA_region ?_) | refine WA_region ?_ | refine WA_exit ?_); try simp (maxSteps := 1000000) (disch := first | omega | rfl | decide | (simp only [List.length_cons, List.length_nil, List.length_append, Bs_length, Is_length, Vs_length, Bl_length, Il_length] <;> omega)) only [go_sem, Nat.reduceAdd, Int.reduceAdd, Int.reduceSub, Int.reduceMul, Bool.not_true, Bool.not_false, hb, hw]) | refine WA_seq ?_ | refine WA_block ?_ | (refine WA_skip ?_; try simp only [go_sem]) | (refine WA_ret ?_; try simp only [go_sem]) | refine WA_ct rfl ?_ | refine WA_cf rfl ?_))
      (refine Drop_slots (by first | exact Nat.le_refl _ | simp) ?_; focus ((try simp only [JL_same, JL_J, JL_nil, Int.reduceAdd, Nat.sub_sub, Int.natCast_add, Int.natCast_one, Int.natCast_zero, Int.cast_ofNat_Int, Nat.add_zero, Bool.false_eq_true, if_false, if_true, poP_f hb, sqP]); (try exact JL_refl _)))
    · (repeat (first | ((first | (refine And.intro ?_ ?_; focus (first | exact plain_agg (by simp only [go_sem]) | exact plain_two (by first | exact plain_agg (by simp only [go_sem]) | rfl) rfl | rfl)) | ((first | with_reducible apply callB_i | with_reducible apply callK_intro | with_reducible apply callQ_i); (focus (first | assumption | (with_reducible apply tmS_ac h0 h1 <;> (first | assumption | rfl | (simp (disch := omega) only [go_sem]; first | done | rfl) | omega | decide | (simp; done))))); (try (focus (refine WP.mk ?_ ?_; (focus ((repeat (first | exact trivial | (refine And.intro ?_ ?_; (focus first | exact plainV_wf rfl | (refine plainV_wf (plain_agg ?_); simp only [go_sem]; done) | (simp only [wfV, wf1, wfC, List.length_append, List.length_cons, List.length_nil]; omega))))))); (focus (first | rfl | (refine plain_agg ?_; simp only [go_sem]; done) | (refine plain_two ?_ ?_ <;> first | rfl | (refine plain_agg ?_; simp only [go_sem]; done)))))))) | refine WA_seq (WA_region ?_) | refine WA_region ?_ | refine WA_exit ?_); try simp (maxSteps := 1000000) (disch := first | omega | rfl | decide | (simp only [List.length_cons, List.length_nil, List.length_append, Bs_length, Is_length, Vs_length, Bl_length, Il_length] <;> omega)) only [go_sem, Nat.reduceAdd, Int.reduceAdd, Int.reduceSub, Int.reduceMul, Bool.not_true, Bool.not_false, hb, hw]) | refine WA_seq ?_ | refine WA_block ?_ | (refine WA_skip ?_; try simp only [go_sem]) | (refine WA_ret ?_; try simp only [go_sem]) | refine WA_ct rfl ?_ | refine WA_cf rfl ?_))
      (refine Drop_slots (by first | exact Nat.le_refl _ | simp) ?_; focus ((try simp only [JL_same, JL_J, JL_nil, Int.reduceAdd, Nat.sub_sub, Int.natCast_add, Int.natCast_one, Int.natCast_zero, Int.cast_ofNat_Int, Nat.add_zero, Bool.false_eq_true, if_false, if_true, poP_t hb, sqP]); (try exact JL_refl _)))
  · (repeat (first | ((first | (refine And.intro ?_ ?_; focus (first | exact plain_agg (by simp only [go_sem]) | exact plain_two (by first | exact plain_agg (by simp only [go_sem]) | rfl) rfl | rfl)) | refine WA_seq (WA_region ?_) | refine WA_region ?_ | refine WA_exit ?_); try simp (maxSteps := 1000000) (disch := first | omega | rfl | decide | (simp only [List.length_cons, List.length_nil, List.length_append, Bs_length, Is_length, Vs_length, Bl_length, Il_length] <;> omega)) only [go_sem, Nat.reduceAdd, Int.reduceAdd, Int.reduceSub, Int.reduceMul, Bool.not_true, Bool.not_false, blen_done]) | refine WA_seq ?_ | refine WA_block ?_ | (refine WA_skip ?_; try simp only [go_sem]) | (refine WA_ret ?_; try simp only [go_sem]) | refine WA_ct rfl ?_ | refine WA_cf rfl ?_))
    ((first | refine ret_none (by first | exact .inr rfl | exact .inl rfl) ?_ | refine ret_same (by first | exact .inr rfl | exact .inl rfl) ?_ (by first | rfl | exact plain_agg (by simp only [go_sem]) | exact plain_two (by first | exact plain_agg (by simp only [go_sem]) | rfl) (by first | exact plain_agg (by simp only [go_sem]) | rfl)) | refine ret_full (by first | exact .inr rfl | exact .inl rfl) (by simp) ?_); simp (maxSteps := 1000000) (disch := first | omega | rfl | decide | (simp only [List.length_cons, List.length_nil, List.length_append, Bs_length, Is_length, Vs_length, Bl_length, Il_length] <;> omega)) only [go_sem, Nat.reduceAdd, Int.reduceAdd, Int.reduceSub, Int.reduceMul, Bool.not_true, Bool.not_false, po]; try rfl)

theorem poI_ac {m : Nat} (h0 : 256 ≤ m) (h1 : m < 512) (a : UInt8) {e : Nat} (he : e < 9223372036854775808) (h : List Blk) : AC Try.prog 140 [.int .i64 m, B a, .int .i64 e] h (B (po m a e)) h := by
  (refine AC_begin (fun _ _ => Try.call140 _ _) Try.func140 rfl Try.ntmps140 Try.results140 (fun hwf => ?_); simp only [List.length_cons, List.length_nil, Nat.reduceAdd, Nat.reduceSub, List.replicate, List.cons_append, List.nil_append])
  (repeat (first | ((first | (refine And.intro ?_ ?_; focus (first | exact plain_agg (by simp only [go_sem]) | exact plain_two (by first | exact plain_agg (by simp only [go_sem]) | rfl) rfl | rfl)) | refine WA_seq (WA_region ?_) | refine WA_region ?_ | refine WA_exit ?_); try simp (maxSteps := 1000000) (disch := first | omega | rfl | decide | (simp only [List.length_cons, List.length_nil, List.length_append, Bs_length, Is_length, Vs_length, Bl_length, Il_length] <;> omega)) only [go_sem, Nat.reduceAdd, Int.reduceAdd, Int.reduceSub, Int.reduceMul, Bool.not_true, Bool.not_false]) | refine WA_seq ?_ | refine WA_block ?_ | (refine WA_skip ?_; try simp only [go_sem]) | (refine WA_ret ?_; try simp only [go_sem]) | refine WA_ct rfl ?_ | refine WA_cf rfl ?_))
  refine WA_forH (fun k => [(1, B (sqP m a k)), (2, .int .i64 ((e >>> k : Nat))), (7, B (poP m a e k)), (8, J), (9, J), (10, J), (11, J), (12, J), (13, J), (14, J), (15, J), (16, J), (17, J), (18, J), (19, J), (20, J), (21, J), (22, J)]) (fun k => h) (blen e) ?_ ?_ ?_ <;> (try simp only [patT_cons, patT_nil, patL_cons, patL_nil, list_set_zero, list_set_succ, blk_set_zero, blk_set_succ])
  · (refine Drop_slots (by first | exact Nat.le_refl _ | simp) ?_; focus ((try simp only [JL_same, JL_J, JL_nil, Int.reduceAdd, Nat.sub_sub, Int.natCast_add, Int.natCast_one, Int.natCast_zero, Int.cast_ofNat_Int, Nat.add_zero, Bool.false_eq_true, if_false, if_true, sqP, poP, Nat.shiftRight_zero]); (try exact JL_refl _)))
  · intro k hk
    have hp := blen_pos hk
    have hs := Nat.shiftRight_le e k
    have hw := wrap_N (n := e >>> (k+1)) (Nat.lt_of_le_of_lt (Nat.shiftRight_le e (k + 1)) he)
    cases hb : e.testBit k
    · (repeat (first | ((first | (refine And.intro ?_ ?_; focus (first | exact plain_agg (by simp only [go_sem]) | exact plain_two (by first | exact plain_agg (by simp only [go_sem]) | rfl) rfl | rfl)) | ((first | with_reducible apply callB_i | with_reducible apply callK_intro | with_reducible apply callQ_i); (focus (first | assumption | (with_reducible apply tmI_ac h0 h1 <;> (first | assumption | rfl | (simp (disch := omega) only [go_sem]; first | done | rfl) | omega | decide | (simp; done))))); (try (focus (refine WP.mk ?_ ?_; (focus ((repeat (first | exact trivial | (refine And.intro ?_ ?_; (focus first | exact plainV_wf rfl | (refine plainV_wf (plain_agg ?_); simp only [go_sem]; done) | (simp only [wfV, wf1, wfC, List.length_append, List.length_cons, List.length_nil]; omega))))))); (focus (first | rfl | (refine plain_agg ?_; simp only [go_sem]; done) | (refine plain_two ?_ ?_ <;> first | rfl | (refine plain_agg ?_; simp only [go_sem]; done)))))))) | refine WA_seq (WA_region ?_) | refine WA_region ?_ | refine WA_exit ?_); try simp (maxSteps := 1000000) (disch := first | omega | rfl | decide | (simp only [List.length_cons, List.length_nil, List.length_append, Bs_length, Is_length, Vs_length, Bl_length, Il_length] <;> omega)) only [go_sem, Nat.reduceAdd, Int.reduceAdd, Int.reduceSub, Int.reduceMul, Bool.not_true, Bool.not_false, hb, hw]) | refine WA_seq ?_ | refine WA_block ?_ | (refine WA_skip ?_; try simp only [go_sem]) | (refine WA_ret ?_; try simp only [go_sem]) | refine WA_ct rfl ?_ | refine WA_cf rfl ?_))
      (refine Drop_slots (by first | exact Nat.le_refl _ | simp) ?_; focus ((try simp only [JL_same, JL_J, JL_nil, Int.reduceAdd, Nat.sub_sub, Int.natCast_add, Int.natCast_one, Int.natCast_zero, Int.cast_ofNat_Int, Nat.add_zero, Bool.false_eq_true, if_false, if_true, poP_f hb, sqP]); (try exact JL_refl _)))
    · (repeat (first | ((first | (refine And.intro ?_ ?_; focus (first | exact plain_agg (by simp only [go_sem]) | exact plain_two (by first | exact plain_agg (by simp only [go_sem]) | rfl) rfl | rfl)) | ((first | with_reducible apply callB_i | with_reducible apply callK_intro | with_reducible apply callQ_i); (focus (first | assumption | (with_reducible apply tmI_ac h0 h1 <;> (first | assumption | rfl | (simp (disch := omega) only [go_sem]; first | done | rfl) | omega | decide | (simp; done))))); (try (focus (refine WP.mk ?_ ?_; (focus ((repeat (first | exact trivial | (refine And.intro ?_ ?_; (focus first | exact plainV_wf rfl | (refine plainV_wf (plain_agg ?_); simp only [go_sem]; done) | (simp only [wfV, wf1, wfC, List.length_append, List.length_cons, List.length_nil]; omega))))))); (focus (first | rfl | (refine plain_agg ?_; simp only [go_sem]; done) | (refine plain_two ?_ ?_ <;> first | rfl | (refine plain_agg ?_; simp only [go_sem]; done)))))))) | refine WA_seq (WA_region ?_) | refine WA_region ?_ | refine WA_exit ?_); try simp (maxSteps := 1000000) (disch := first | omega | rfl | decide | (simp only [List.length_cons, List.length_nil, List.length_append, Bs_length, Is_length, Vs_length, Bl_length, Il_length] <;> omega)) only [go_sem, Nat.reduceAdd, Int.reduceAdd, Int.reduceSub, Int.reduceMul, Bool.not_true, Bool.not_false, hb, hw]) | refine WA_seq ?_ | refine WA_block ?_ | (refine WA_skip ?_; try simp only [go_sem]) | (refine WA_ret ?_; try simp only [go_sem]) | refine WA_ct rfl ?_ | refine WA_cf rfl ?_))
      (refine Drop_slots (by first | exact Nat.le_refl _ | simp) ?_; focus ((try simp only [JL_same, JL_J, JL_nil, Int.reduceAdd, Nat.sub_sub, Int.natCast_add, Int.natCast_one, Int.natCast_zero, Int.cast_ofNat_Int, Nat.add_zero, Bool.false_eq_true, if_false, if_true, poP_t hb, sqP]); (try exact JL_refl _)))
  · (repeat (first | ((first | (refine And.intro ?_ ?_; focus (first | exact plain_agg (by simp only [go_sem]) | exact plain_two (by first | exact plain_agg (by simp only [go_sem]) | rfl) rfl | rfl)) | refine WA_seq (WA_region ?_) | refine WA_region ?_ | refine WA_exit ?_); try simp (maxSteps := 1000000) (disch := first | omega | rfl | decide | (simp only [List.length_cons, List.length_nil, List.length_append, Bs_length, Is_length, Vs_length, Bl_length, Il_length] <;> omega)) only [go_sem, Nat.reduceAdd, Int.reduceAdd, Int.reduceSub, Int.reduceMul, Bool.not_true, Bool.not_false, blen_done]) | refine WA_seq ?_ | refine WA_block ?_ | (refine WA_skip ?_; try simp only [go_sem]) | (refine WA_ret ?_; try simp only [go_sem]) | refine WA_ct rfl ?_ | refine WA_cf rfl ?_))
    ((first | refine ret_none (by first | exact .inr rfl | exact .inl rfl) ?_ | refine ret_same (by first | exact .inr rfl | exact .inl rfl) ?_ (by first | rfl | exact plain_agg (by simp only [go_sem]) | exact plain_two (by first | exact plain_agg (by simp only [go_sem]) | rfl) (by first | exact plain_agg (by simp only [go_sem]) | rfl)) | refine ret_full (by first | exact .inr rfl | exact .inl rfl) (by simp) ?_); simp (maxSteps := 1000000) (disch := first | omega | rfl | decide | (simp only [List.length_cons, List.length_nil, List.length_append, Bs_length, Is_length, Vs_length, Bl_length, Il_length] <;> omega)) only [go_sem, Nat.reduceAdd, Int.reduceAdd, Int.reduceSub, Int.reduceMul, Bool.not_true, Bool.not_false, po]; try rfl)

theorem invS_ac {m : Nat} (h0 : 256 ≤ m) (h1 : m < 512) (a : UInt8) (h : List Blk) : AC Try.prog 137 [.int .i64 m, B a] h (B (inv m a)) h := by
  (refine AC_begin (fun _ _ => Try.call137 _ _) Try.func137 rfl Try.ntmps137 Try.results137 (fun hwf => ?_); simp only [List.length_cons, List.length_nil, Nat.reduceAdd, Nat.reduceSub, List.replicate, List.cons_append, List.nil_append])
  have hp : AC Try.prog 145 [.int .i64 m, B a, .int .i64 254] h (B (po m a 254)) h := poS_ac h0 h1 a (e := 254) (by omega) h
  (repeat (first | ((first | (refine And.intro ?_ ?_; focus (first | exact plain_agg (by simp only [go_sem]) | exact plain_two (by first | exact plain_agg (by simp only [go_sem]) | rfl) rfl | rfl)) | ((first | with_reducible apply callB_i | with_reducible apply callK_intro | with_reducible apply callQ_i); (focus (first | assumption | (with_reducible apply hp <;> (first | assumption | rfl | (simp (disch := omega) only [go_sem]; first | done | rfl) | omega | decide | (simp; done))))); (try (focus (refine WP.mk ?_ ?_; (focus ((repeat (first | exact trivial | (refine And.intro ?_ ?_; (focus first | exact plainV_wf rfl | (refine plainV_wf (plain_agg ?_); simp only [go_sem]; done) | (simp only [wfV, wf1, wfC, List.length_append, List.length_cons, List.length_nil]; omega))))))); (focus (first | rfl | (refine plain_agg ?_; simp only [go_sem]; done) | (refine plain_two ?_ ?_ <;> first | rfl | (refine plain_agg ?_; simp only [go_sem]; done)))))))) | refine WA_seq (WA_region ?_) | refine WA_region ?_ | refine WA_exit ?_); try simp (maxSteps := 1000000) (disch := first | omega | rfl | decide | (simp only [List.length_cons, List.length_nil, List.length_append, Bs_length, Is_length, Vs_length, Bl_length, Il_length] <;> omega)) only [go_sem, Nat.reduceAdd, Int.reduceAdd, Int.reduceSub, Int.reduceMul, Bool.not_true, Bool.not_false]) | refine WA_seq ?_ | refine WA_block ?_ | (refine WA_skip ?_; try simp only [go_sem]) | (refine WA_ret ?_; try simp only [go_sem]) | refine WA_ct rfl ?_ | refine WA_cf rfl ?_))
  ((first | refine ret_none (by first | exact .inr rfl | exact .inl rfl) ?_ | refine ret_same (by first | exact .inr rfl | exact .inl rfl) ?_ (by first | rfl | exact plain_agg (by simp only [go_sem]) | exact plain_two (by first | exact plain_agg (by simp only [go_sem]) | rfl) (by first | exact plain_agg (by simp only [go_sem]) | rfl)) | refine ret_full (by first | exact .inr rfl | exact .inl rfl) (by simp) ?_); simp (maxSteps := 1000000) (disch := first | omega | rfl | decide | (simp only [List.length_cons, List.length_nil, List.length_append, Bs_length, Is_length, Vs_length, Bl_length, Il_length] <;> omega)) only [go_sem, Nat.reduceAdd, Int.reduceAdd, Int.reduceSub, Int.reduceMul, Bool.not_true, Bool.not_false, inv]; try rfl)

theorem invI_ac {m : Nat} (h0 : 256 ≤ m) (h1 : m < 512) (a : UInt8) (h : List Blk) : AC Try.prog 136 [.int .i64 m, B a] h (B (inv m a)) h := by
  (refine AC_begin (fun _ _ => Try.call136 _ _) Try.func136 rfl Try.ntmps136 Try.results136 (fun hwf => ?_); simp only [List.length_cons, List.length_nil, Nat.reduceAdd, Nat.reduceSub, List.replicate, List.cons_append, List.nil_append])
  have hp : AC Try.prog 140 [.int .i64 m, B a, .int .i64 254] h (B (po m a 254)) h := poI_ac h0 h1 a (e := 254) (by omega) h
  (repeat (first | ((first | (refine And.intro ?_ ?_; focus (first | exact plain_agg (by simp only [go_sem]) | exact plain_two (by first | exact plain_agg (by simp only [go_sem]) | rfl) rfl | rfl)) | ((first | with_reducible apply callB_i | with_reducible apply callK_intro | with_reducible apply callQ_i); (focus (first | assumption | (with_reducible apply hp <;> (first | assumption | rfl | (simp (disch := omega) only [go_sem]; first | done | rfl) | omega | decide | (simp; done))))); (try (focus (refine WP.mk ?_ ?_; (focus ((repeat (first | exact trivial | (refine And.intro ?_ ?_; (focus first | exact plainV_wf rfl | (refine plainV_wf (plain_agg ?_); simp only [go_sem]; done) | (simp only [wfV, wf1, wfC, List.length_append, List.length_cons, List.length_nil]; omega))))))); (focus (first | rfl | (refine plain_agg ?_; simp only [go_sem]; done) | (refine plain_two ?_ ?_ <;> first | rfl | (refine plain_agg ?_; simp only [go_sem]; done)))))))) | refine WA_seq (WA_region ?_) | refine WA_region ?_ | refine WA_exit ?_); try simp (maxSteps := 1000000) (disch := first | omega | rfl | decide | (simp only [List.length_cons, List.length_nil, List.length_append, Bs_length, Is_length, Vs_length, Bl_length, Il_length] <;> omega)) only [go_sem, Nat.reduceAdd, Int.reduceAdd, Int.reduceSub, Int.reduceMul, Bool.not_true, Bool.not_false]) | refine WA_seq ?_ | refine WA_block ?_ | (refine WA_skip ?_; try simp only [go_sem]) | (refine WA_ret ?_; try simp only [go_sem]) | refine WA_ct rfl ?_ | refine WA_cf rfl ?_))
  ((first | refine ret_none (by first | exact .inr rfl | exact .inl rfl) ?_ | refine ret_same (by first | exact .inr rfl | exact .inl rfl) ?_ (by first | rfl | exact plain_agg (by simp only [go_sem]) | exact plain_two (by first | exact plain_agg (by simp only [go_sem]) | rfl) (by first | exact plain_agg (by simp only [go_sem]) | rfl)) | refine ret_full (by first | exact .inr rfl | exact .inl rfl) (by simp) ?_); simp (maxSteps := 1000000) (disch := first | omega | rfl | decide | (simp only [List.length_cons, List.length_nil, List.length_append, Bs_length, Is_length, Vs_length, Bl_length, Il_length] <;> omega)) only [go_sem, Nat.reduceAdd, Int.reduceAdd, Int.reduceSub, Int.reduceMul, Bool.not_true, Bool.not_false, inv]; try rfl)

/-- n bytes done, and the n-th begun. -/
def doneF (g : Nat → UInt8) (n : Nat) (x : UInt8) : Nat → UInt8 := fun i => if i < n then g i else if i = n then x else 0
theorem doneF_start (g : Nat → UInt8) : doneF g 0 0 = fun _ => 0 := by funext i; simp [doneF]
theorem doneF_set (g : Nat → UInt8) (n : Nat) (x y : UInt8) : upd (doneF g n x) n y = doneF g n y := by
  funext i; unfold upd doneF; by_cases h : i = n
  · subst h; simp
  · simp [h]
theorem doneF_at (g : Nat → UInt8) (n : Nat) (x : UInt8) : doneF g n x n = x := by simp [doneF]
theorem doneF_next {g : Nat → UInt8} {n : Nat} {x : UInt8} (h : g n = x) : doneF g n x = doneF g (n + 1) 0 := by
  funext i; unfold doneF; by_cases h1 : i < n
  · rw [if_pos h1, if_pos (by omega)]
  · by_cases h2 : i = n
    · subst h2; rw [if_neg h1, if_pos rfl, if_pos (by omega), h]
    · rw [if_neg h1, if_neg h2, if_neg (by omega)]; simp
theorem doneF_all (g : Nat → UInt8) (n : Nat) (x : UInt8) : Bs n (doneF g n x) = Bs n g := Bs_congr fun i hi => by simp [doneF, hi]

end Go.Proofs.Ytkgiocoiojdgfaa
/- MixBlock. -/
namespace Go.Proofs.Ytkgiocoiojdgfaa
set_option linter.unusedSimpArgs false
set_option linter.unusedVariables false
set_option maxRecDepth 20000
set_option maxHeartbeats 1000000
open Go.Abs

def zeroF : Nat → UInt8 := fun _ => 0
theorem fieldB_nat {m : Int} (hf : fieldB m.toNat = true) : ∃ n : Nat, m = n ∧ fieldB n = true ∧ 256 ≤ n ∧ n < 512 := by
  have hf' := hf
  unfold fieldB at hf
  rw [Bool.and_eq_true, Bool.and_eq_true, decide_eq_true_eq, decide_eq_true_eq] at hf
  exact ⟨m.toNat, by omega, hf', by omega, by omega⟩
end Go.Proofs.Ytkgiocoiojdgfaa
/- Matrices: reducing one to the unit matrix. Plain. -/
namespace Go.Proofs.Ytkgiocoiojdgfaa
set_option linter.unusedSimpArgs false
set_option linter.unusedVariables false
set_option maxRecDepth 20000
set_option maxHeartbeats 1000000
open Go.Abs

theorem over_zero (f g : Nat → UInt8) (o : Nat) : over f o 0 g = f := by funext i; unfold over; rw [if_neg (by omega)]
theorem over_set (f g : Nat → UInt8) (o j : Nat) : upd (over f o j g) (o + j) (g j) = over f o (j + 1) g := by
  funext i; unfold upd over
  by_cases h : i = o + j
  · rw [if_pos h, if_pos (by omega)]; congr 1; omega
  · rw [if_neg h]
    by_cases h2 : o ≤ i ∧ i < o + j
    · rw [if_pos h2, if_pos (by omega)]
    · rw [if_neg h2, if_neg (by omega)]
theorem over_at (f g : Nat → UInt8) (o j : Nat) : over f o j g (o + j) = f (o + j) := by unfold over; rw [if_neg (by omega)]
theorem over_out {f g : Nat → UInt8} {o j x : Nat} (h : x < o ∨ o + j ≤ x) : over f o j g x = f x := by unfold over; rw [if_neg (by omega)]
theorem over_same (f : Nat → UInt8) (o j : Nat) : over f o j (fun t => f (o + t)) = f := by
  funext i; unfold over; split
  · show f (o + (i - o)) = f i
    congr 1; omega
  · rfl

/-- How often p holds on from s. -/
def skip (p : Nat → Bool) : Nat → Nat → Nat
  | 0, _ => 0
  | f + 1, s => if p s then skip p f (s + 1) + 1 else 0
theorem skip_go {p : Nat → Bool} : ∀ f s r, r < skip p f s → p (s + r) = true
  | 0, _, _, h => by simp [skip] at h
  | f + 1, s, r, h => by
    rw [skip] at h
    split at h
    · rename_i hp
      cases r with
      | zero => exact hp
      | succ r => have := skip_go (p := p) f (s + 1) r (by omega); rwa [show s + (r + 1) = s + 1 + r by omega]
    · omega
theorem skip_end {p : Nat → Bool} : ∀ f s, skip p f s < f → p (s + skip p f s) = false
  | 0, _, h => by omega
  | f + 1, s, h => by
    rw [skip] at h ⊢
    split
    · rename_i hp
      rw [if_pos hp] at h
      have := skip_end (p := p) f (s + 1) (by omega)
      rwa [show s + (skip p f (s + 1) + 1) = s + 1 + skip p f (s + 1) by omega]
    · rename_i hp; simpa using hp

def pivP (a : Nat → UInt8) (k i : Nat) : Bool := decide (i < 4) && a (i * 4 + k) == 0
def pivC (a : Nat → UInt8) (k : Nat) : Nat := skip (pivP a k) 8 k
def piv (a : Nat → UInt8) (k : Nat) : Nat := k + pivC a k
theorem piv_go {a : Nat → UInt8} {k r : Nat} (h : r < pivC a k) : k + r < 4 ∧ (a ((k + r) * 4 + k) == 0) = true := by
  have := skip_go _ _ _ h
  unfold pivP at this
  rwa [Bool.and_eq_true, decide_eq_true_eq] at this
theorem piv_le (a : Nat → UInt8) {k : Nat} (hk : k < 4) : k ≤ piv a k ∧ piv a k ≤ 4 := by
  unfold piv
  refine ⟨Nat.le_add_right _ _, ?_⟩
  cases h : pivC a k with
  | zero => omega
  | succ r => have := piv_go (a := a) (k := k) (r := r) (by omega); omega
theorem piv_end {a : Nat → UInt8} {k : Nat} (hk : k < 4) (h : piv a k < 4) : (a (piv a k * 4 + k) == 0) = false := by
  have h2 : skip (pivP a k) 8 k < 8 := by have : piv a k = k + skip (pivP a k) 8 k := rfl; omega
  have := skip_end _ _ h2
  unfold pivP at this
  rw [show k + skip (fun i => decide (i < 4) && a (i * 4 + k) == 0) 8 k = piv a k from rfl] at this
  rw [decide_eq_true h, Bool.true_and] at this
  exact this

def swp (a : Nat → UInt8) (i k : Nat) : Nat → UInt8 := over (over a (i * 4) 4 (fun t => a (k * 4 + t))) (k * 4) 4 (fun t => a (i * 4 + t))
def scl (m : Nat) (x : Nat → UInt8) (k : Nat) (v : UInt8) (j : Nat) : Nat → UInt8 := over x (k * 4) j fun t => tm m (x (k * 4 + t)) v
def elm (m : Nat) (f : UInt8) (k r : Nat) (x : Nat → UInt8) (j : Nat) : Nat → UInt8 := over x (r * 4) j fun t => x (r * 4 + t) ^^^ tm m f (x (k * 4 + t))
theorem scl_zero (m : Nat) (x : Nat → UInt8) (k : Nat) (v : UInt8) : scl m x k v 0 = x := over_zero _ _ _
theorem scl_at (m : Nat) (x : Nat → UInt8) (k : Nat) (v : UInt8) (j : Nat) : scl m x k v j (k * 4 + j) = x (k * 4 + j) := over_at _ _ _ _
theorem scl_set (m : Nat) (x : Nat → UInt8) (k : Nat) (v : UInt8) (j : Nat) : upd (scl m x k v j) (k * 4 + j) (tm m (x (k * 4 + j)) v) = scl m x k v (j + 1) := over_set x (fun t => tm m (x (k * 4 + t)) v) _ _
theorem elm_zero (m : Nat) (f : UInt8) (k r : Nat) (x : Nat → UInt8) : elm m f k r x 0 = x := over_zero _ _ _
theorem elm_at (m : Nat) (f : UInt8) (k r : Nat) (x : Nat → UInt8) (j : Nat) : elm m f k r x j (r * 4 + j) = x (r * 4 + j) := over_at _ _ _ _
theorem elm_key {m : Nat} {f : UInt8} {k r : Nat} {x : Nat → UInt8} {j t : Nat} (h : r ≠ k) (ht : t < 4) (hj : j ≤ 4) : elm m f k r x j (k * 4 + t) = x (k * 4 + t) := over_out (by omega)
theorem elm_set (m : Nat) (f : UInt8) (k r : Nat) (x : Nat → UInt8) (j : Nat) : upd (elm m f k r x j) (r * 4 + j) (x (r * 4 + j) ^^^ tm m f (x (k * 4 + j))) = elm m f k r x (j + 1) := over_set x (fun t => x (r * 4 + t) ^^^ tm m f (x (k * 4 + t))) _ _
theorem tm_zero (m : Nat) (x : UInt8) : tm m 0 x = 0 := by
  have hd : ∀ k, dblN m 0 k = 0 := by
    intro k; induction k with
    | zero => rfl
    | succ k ih => rw [dblN, ih]; rfl
  have : ∀ k, mulP m 0 x.toNat k = 0 := by
    intro k; induction k with
    | zero => rfl
    | succ k ih => rw [mulP, ih, hd]; simp
  unfold tm mulN
  rw [show (0 : UInt8).toNat = 0 from rfl, this]; rfl
theorem elm_f0 (m k r : Nat) (x : Nat → UInt8) (j : Nat) : elm m 0 k r x j = x := by
  unfold elm
  simp only [tm_zero, UInt8.xor_zero]
  exact over_same _ _ _

def elN (m k : Nat) (a b : Nat → UInt8) : Nat → (Nat → UInt8) × (Nat → UInt8)
  | 0 => (a, b)
  | r + 1 => if r = k then elN m k a b r else (elm m ((elN m k a b r).1 (r * 4 + k)) k r (elN m k a b r).1 4, elm m ((elN m k a b r).1 (r * 4 + k)) k r (elN m k a b r).2 4)
theorem elN_same {m k : Nat} {a b : Nat → UInt8} : elN m k a b (k + 1) = elN m k a b k := by rw [elN, if_pos rfl]
theorem elN_other {m k r : Nat} {a b : Nat → UInt8} (h : r ≠ k) : elN m k a b (r + 1) = (elm m ((elN m k a b r).1 (r * 4 + k)) k r (elN m k a b r).1 4, elm m ((elN m k a b r).1 (r * 4 + k)) k r (elN m k a b r).2 4) := by rw [elN, if_neg h]
theorem elN_f0 {m k r : Nat} {a b : Nat → UInt8} (h : (elN m k a b r).1 (r * 4 + k) = 0) : elN m k a b (r + 1) = elN m k a b r := by
  rw [elN, h, elm_f0, elm_f0]; split <;> rfl

structure RS where
  a : Nat → UInt8
  b : Nat → UInt8
  d : UInt8
def stepR (m k : Nat) (s : RS) : RS :=
  ⟨(elN m k (scl m (swp s.a (piv s.a k) k) k (inv m (swp s.a (piv s.a k) k (k * 4 + k))) 4) (scl m (swp s.b (piv s.a k) k) k (inv m (swp s.a (piv s.a k) k (k * 4 + k))) 4) 4).1,
   (elN m k (scl m (swp s.a (piv s.a k) k) k (inv m (swp s.a (piv s.a k) k (k * 4 + k))) 4) (scl m (swp s.b (piv s.a k) k) k (inv m (swp s.a (piv s.a k) k (k * 4 + k))) 4) 4).2,
   tm m s.d (swp s.a (piv s.a k) k (k * 4 + k))⟩
def unitP (k : Nat) : Nat → UInt8 := fun x => if x % 5 = 0 ∧ x < 5 * k then 1 else 0
def unitF : Nat → UInt8 := unitP 4
theorem unitP_zero : unitP 0 = fun _ => 0 := by funext i; simp [unitP]
theorem unitP_set (k : Nat) : upd (unitP k) (k * 4 + k) 1 = unitP (k + 1) := by
  funext i; unfold upd unitP
  by_cases h : i = k * 4 + k
  · rw [if_pos h, if_pos (by omega)]
  · rw [if_neg h]
    by_cases h2 : i % 5 = 0 ∧ i < 5 * k
    · rw [if_pos h2, if_pos (by omega)]
    · rw [if_neg h2, if_neg (by omega)]
def rs (m : Nat) (a : Nat → UInt8) : Nat → RS
  | 0 => ⟨a, unitF, 1⟩
  | k + 1 => stepR m k (rs m a k)
/-- A column without a pivot among the first n. -/
def sing (m : Nat) (a : Nat → UInt8) : Nat → Bool
  | 0 => false
  | k + 1 => sing m a k || piv (rs m a k).a k == 4
theorem sing_mono {m : Nat} {a : Nat → UInt8} {k : Nat} : ∀ {n}, k < n → piv (rs m a k).a k = 4 → sing m a n = true
  | 0, h, _ => by omega
  | n + 1, h, hp => by
    rw [sing, Bool.or_eq_true]
    by_cases e : k = n
    · subst e; right; simp [hp]
    · left; exact sing_mono (by omega) hp
theorem sing_next {m : Nat} {a : Nat → UInt8} {k : Nat} (h : sing m a k = false) (hp : piv (rs m a k).a k ≠ 4) : sing m a (k + 1) = false := by
  rw [sing, h, Bool.false_or]; simpa using hp
def detF (m : Nat) (a : Nat → UInt8) : UInt8 := if sing m a 4 then 0 else (rs m a 4).d
def backF (m : Nat) (a : Nat → UInt8) : Nat → UInt8 := if sing m a 4 then zeroF else (rs m a 4).b

theorem WA_mid {P : Program} {n0 : Nat} {x y : Code} {Q Q' : Exit → AS → Prop} {s : AS} (S : AS) (h : WA P n0 x (Then (fun s' => Drop n0 s' S) Q') s) (h2 : WA P n0 y Q S) : WA P n0 x (Then (WA P n0 y Q) Q') s :=
  WA_mono h fun e s' hq => by
    cases e <;> first | exact WA_pre hq h2 | exact hq
theorem WA_midP {P : Program} {n0 : Nat} {x y : Code} {Q Q' : Exit → AS → Prop} {t : List Value} {H L : List Blk} (ps : List (Nat × Value)) (L' : List Blk)
    (h : WA P n0 x (Then (fun s' => Drop n0 s' ⟨patT t ps, H ++ L'⟩) Q') ⟨t, H ++ L⟩) (h2 : WA P n0 y Q ⟨patT t ps, H ++ L'⟩) : WA P n0 x (Then (WA P n0 y Q) Q') ⟨t, H ++ L⟩ := WA_mid _ h h2
theorem unitS_ac (h : List Blk) : AC Try.prog 85 [] h (.agg (Bs 16 unitF).toArray) h := by
  (refine AC_begin (fun _ _ => Try.call85 _ _) Try.func85 rfl Try.ntmps85 Try.results85 (fun hwf => ?_); simp only [List.length_cons, List.length_nil, Nat.reduceAdd, Nat.reduceSub, List.replicate, List.cons_append, List.nil_append])
  (repeat (first | ((first | (refine And.intro ?_ ?_; focus (first | exact plain_agg (by simp only [go_sem]) | exact plain_two (by first | exact plain_agg (by simp only [go_sem]) | rfl) rfl | rfl)) | refine WA_seq (WA_region ?_) | refine WA_region ?_ | refine WA_exit ?_); try simp (maxSteps := 1000000) (disch := first | omega | rfl | decide | (simp only [List.length_cons, List.length_nil, List.length_append, Bs_length, Is_length, Vs_length, Bl_length, Il_length] <;> omega)) only [go_sem, Nat.reduceAdd, Int.reduceAdd, Int.reduceSub, Int.reduceMul, Bool.not_true, Bool.not_false]) | refine WA_seq ?_ | refine WA_block ?_ | (refine WA_skip ?_; try simp only [go_sem]) | (refine WA_ret ?_; try simp only [go_sem]) | refine WA_ct rfl ?_ | refine WA_cf rfl ?_))
  refine WA_forP (fun k => [(2, .int .i64 k), (4, J), (5, J), (6, J), (7, J), (8, J), (9, J), (10, J), (11, J)]) (fun k => [(1, ⟨Bs 16 (unitP k), true⟩)]) (4) ?_ ?_ ?_ <;> (try simp only [patT_cons, patT_nil, patL_cons, patL_nil, list_set_zero, list_set_succ, blk_set_zero, blk_set_succ])
  · (refine Drop_slots (by first | exact Nat.le_refl _ | simp) ?_; focus ((try simp only [JL_same, JL_J, JL_nil, Int.reduceAdd, Nat.sub_sub, Int.natCast_add, Int.natCast_one, Int.natCast_zero, Int.cast_ofNat_Int, Nat.add_zero, Bool.false_eq_true, if_false, if_true, unitP_zero]); (try exact JL_refl _)))
  · intro k hk
    (repeat (first | ((first | (refine And.intro ?_ ?_; focus (first | exact plain_agg (by simp only [go_sem]) | exact plain_two (by first | exact plain_agg (by simp only [go_sem]) | rfl) rfl | rfl)) | refine WA_seq (WA_region ?_) | refine WA_region ?_ | refine WA_exit ?_); try simp (maxSteps := 1000000) (disch := first | omega | rfl | decide | (simp only [List.length_cons, List.length_nil, List.length_append, Bs_length, Is_length, Vs_length, Bl_length, Il_length] <;> omega)) only [go_sem, Nat.reduceAdd, Int.reduceAdd, Int.reduceSub, Int.reduceMul, Bool.not_true, Bool.not_false, unitP_set]) | refine WA_seq ?_ | refine WA_block ?_ | (refine WA_skip ?_; try simp only [go_sem]) | (refine WA_ret ?_; try simp only [go_sem]) | refine WA_ct rfl ?_ | refine WA_cf rfl ?_))
    (refine Drop_slots (by first | exact Nat.le_refl _ | simp) ?_; focus ((try simp only [JL_same, JL_J, JL_nil, Int.reduceAdd, Nat.sub_sub, Int.natCast_add, Int.natCast_one, Int.natCast_zero, Int.cast_ofNat_Int, Nat.add_zero, Bool.false_eq_true, if_false, if_true]); (try exact JL_refl _)))
  · (repeat (first | ((first | (refine And.intro ?_ ?_; focus (first | exact plain_agg (by simp only [go_sem]) | exact plain_two (by first | exact plain_agg (by simp only [go_sem]) | rfl) rfl | rfl)) | refine WA_seq (WA_region ?_) | refine WA_region ?_ | refine WA_exit ?_); try simp (maxSteps := 1000000) (disch := first | omega | rfl | decide | (simp only [List.length_cons, List.length_nil, List.length_append, Bs_length, Is_length, Vs_length, Bl_length, Il_length] <;> omega)) only [go_sem, Nat.reduceAdd, Int.reduceAdd, Int.reduceSub, Int.reduceMul, Bool.not_true, Bool.not_false]) | refine WA_seq ?_ | refine WA_block ?_ | (refine WA_skip ?_; try simp only [go_sem]) | (refine WA_ret ?_; try simp only [go_sem]) | refine WA_ct rfl ?_ | refine WA_cf rfl ?_))
    ((first | refine ret_none (by first | exact .inr rfl | exact .inl rfl) ?_ | refine ret_same (by first | exact .inr rfl | exact .inl rfl) ?_ (by first | rfl | exact plain_agg (by simp only [go_sem]) | exact plain_two (by first | exact plain_agg (by simp only [go_sem]) | rfl) (by first | exact plain_agg (by simp only [go_sem]) | rfl)) | refine ret_full (by first | exact .inr rfl | exact .inl rfl) (by simp) ?_); simp (maxSteps := 1000000) (disch := first | omega | rfl | decide | (simp only [List.length_cons, List.length_nil, List.length_append, Bs_length, Is_length, Vs_length, Bl_length, Il_length] <;> omega)) only [go_sem, Nat.reduceAdd, Int.reduceAdd, Int.reduceSub, Int.reduceMul, Bool.not_true, Bool.not_false, unitF]; try rfl)

theorem unitI_ac (h : List Blk) : AC Try.prog 84 [] h (.agg (Bs 16 unitF).toArray) h := by
  (refine AC_begin (fun _ _ => Try.call84 _ _) Try.func84 rfl Try.ntmps84 Try.results84 (fun hwf => ?_); simp only [List.length_cons, List.length_nil, Nat.reduceAdd, Nat.reduceSub, List.replicate, List.cons_append, List.nil_append])
  (repeat (first | ((first | (refine And.intro ?_ ?_; focus (first | exact plain_agg (by simp only [go_sem]) | exact plain_two (by first | exact plain_agg (by simp only [go_sem]) | rfl) rfl | rfl)) | refine WA_seq (WA_region ?_) | refine WA_region ?_ | refine WA_exit ?_); try simp (maxSteps := 1000000) (disch := first | omega | rfl | decide | (simp only [List.length_cons, List.length_nil, List.length_append, Bs_length, Is_length, Vs_length, Bl_length, Il_length] <;> omega)) only [go_sem, Nat.reduceAdd, Int.reduceAdd, Int.reduceSub, Int.reduceMul, Bool.not_true, Bool.not_false]) | refine WA_seq ?_ | refine WA_block ?_ | (refine WA_skip ?_; try simp only [go_sem]) | (refine WA_ret ?_; try simp only [go_sem]) | refine WA_ct rfl ?_ | refine WA_cf rfl ?_))
  refine WA_forP (fun k => [(2, J), (4, .int .i64 k), (5, J), (6, J), (7, J), (8, J), (9, J), (10, J), (11, J)]) (fun k => [(1, ⟨Bs 16 (unitP k), true⟩)]) (4) ?_ ?_ ?_ <;> (try simp only [patT_cons, patT_nil, patL_cons, patL_nil, list_set_zero, list_set_succ, blk_set_zero, blk_set_succ])
  · (refine Drop_slots (by first | exact Nat.le_refl _ | simp) ?_; focus ((try simp only [JL_same, JL_J, JL_nil, Int.reduceAdd, Nat.sub_sub, Int.natCast_add, Int.natCast_one, Int.natCast_zero, Int.cast_ofNat_Int, Nat.add_zero, Bool.false_eq_true, if_false, if_true, unitP_zero]); (try exact JL_refl _)))
  · intro k hk
    (repeat (first | ((first | (refine And.intro ?_ ?_; focus (first | exact plain_agg (by simp only [go_sem]) | exact plain_two (by first | exact plain_agg (by simp only [go_sem]) | rfl) rfl | rfl)) | refine WA_seq (WA_region ?_) | refine WA_region ?_ | refine WA_exit ?_); try simp (maxSteps := 1000000) (disch := first | omega | rfl | decide | (simp only [List.length_cons, List.length_nil, List.length_append, Bs_length, Is_length, Vs_length, Bl_length, Il_length] <;> omega)) only [go_sem, Nat.reduceAdd, Int.reduceAdd, Int.reduceSub, Int.reduceMul, Bool.not_true, Bool.not_false, unitP_set]) | refine WA_seq ?_ | refine WA_block ?_ | (refine WA_skip ?_; try simp only [go_sem]) | (refine WA_ret ?_; try simp only [go_sem]) | refine WA_ct rfl ?_ | refine WA_cf rfl ?_))
    (refine Drop_slots (by first | exact Nat.le_refl _ | simp) ?_; focus ((try simp only [JL_same, JL_J, JL_nil, Int.reduceAdd, Nat.sub_sub, Int.natCast_add, Int.natCast_one, Int.natCast_zero, Int.cast_ofNat_Int, Nat.add_zero, Bool.false_eq_true, if_false, if_true]); (try exact JL_refl _)))
  · (repeat (first | ((first | (refine And.intro ?_ ?_; focus (first | exact plain_agg (by simp only [go_sem]) | exact plain_two (by first | exact plain_agg (by simp only [go_sem]) | rfl) rfl | rfl)) | refine WA_seq (WA_region ?_) | refine WA_region ?_ | refine WA_exit ?_); try simp (maxSteps := 1000000) (disch := first | omega | rfl | decide | (simp only [List.length_cons, List.length_nil, List.length_append, Bs_length, Is_length, Vs_length, Bl_length, Il_length] <;> omega)) only [go_sem, Nat.reduceAdd, Int.reduceAdd, Int.reduceSub, Int.reduceMul, Bool.not_true, Bool.not_false]) | refine WA_seq ?_ | refine WA_block ?_ | (refine WA_skip ?_; try simp only [go_sem]) | (refine WA_ret ?_; try simp only [go_sem]) | refine WA_ct rfl ?_ | refine WA_cf rfl ?_))
    ((first | refine ret_none (by first | exact .inr rfl | exact .inl rfl) ?_ | refine ret_same (by first | exact .inr rfl | exact .inl rfl) ?_ (by first | rfl | exact plain_agg (by simp only [go_sem]) | exact plain_two (by first | exact plain_agg (by simp only [go_sem]) | rfl) (by first | exact plain_agg (by simp only [go_sem]) | rfl)) | refine ret_full (by first | exact .inr rfl | exact .inl rfl) (by simp) ?_); simp (maxSteps := 1000000) (disch := first | omega | rfl | decide | (simp only [List.length_cons, List.length_nil, List.length_append, Bs_length, Is_length, Vs_length, Bl_length, Il_length] <;> omega)) only [go_sem, Nat.reduceAdd, Int.reduceAdd, Int.reduceSub, Int.reduceMul, Bool.not_true, Bool.not_false, unitF]; try rfl)

end Go.Proofs.Ytkgiocoiojdgfaa
/- Products in fields: laws of rings; permutations of finite sets. Plain Lean. -/
namespace Go.Proofs.Ytkgiocoiojdgfaa
set_option linter.unusedSimpArgs false
set_option linter.unusedVariables false
set_option maxRecDepth 20000
set_option maxHeartbeats 1000000
open Go.Abs

theorem inj_surj : ∀ (n : Nat) (g : Nat → Nat), (∀ i, i < n → g i < n) → (∀ i j, i < n → j < n → g i = g j → i = j) → ∀ y, y < n → ∃ i, i < n ∧ g i = y
  | 0, _, _, _, y, hy => absurd hy (Nat.not_lt_zero y)
  | n + 1, g, hr, hi, y, hy => by
    by_cases hv : g n = n
    · by_cases hyn : y = n
      · exact ⟨n, by omega, by omega⟩
      · obtain ⟨i, h1, h2⟩ := inj_surj n g (fun i h => by
            have := hr i (by omega)
            rcases Nat.lt_or_ge (g i) n with h' | h'
            · exact h'
            · have := hi i n (by omega) (by omega) (by omega); omega) (fun i j h h' e => hi i j (by omega) (by omega) e) y (by omega)
        exact ⟨i, by omega, h2⟩
    · have hvn : g n < n := by have := hr n (by omega); omega
      have key := inj_surj n (fun i => if g i = n then g n else g i) (fun i h => by
          show (if g i = n then g n else g i) < n
          split
          · exact hvn
          · have := hr i (by omega); omega) (fun i j h h' e => by
          change (if g i = n then g n else g i) = (if g j = n then g n else g j) at e
          split at e <;> split at e
          · exact hi i j (by omega) (by omega) (by omega)
          · have := hi n j (by omega) (by omega) e; omega
          · have := hi i n (by omega) (by omega) e; omega
          · exact hi i j (by omega) (by omega) e)
      by_cases hy1 : y = g n
      · exact ⟨n, by omega, hy1.symm⟩
      · by_cases hyn : y = n
        · obtain ⟨i, h1, h2⟩ := key (g n) hvn
          change (if g i = n then g n else g i) = g n at h2
          split at h2
          · exact ⟨i, by omega, by omega⟩
          · have := hi i n (by omega) (by omega) h2; omega
        · obtain ⟨i, h1, h2⟩ := key y (by omega)
          change (if g i = n then g n else g i) = y at h2
          split at h2
          · exact absurd h2.symm hy1
          · exact ⟨i, by omega, h2⟩
theorem mulP_xor (m a b c : Nat) : ∀ k, mulP m a (b ^^^ c) k = mulP m a b k ^^^ mulP m a c k
  | 0 => by simp [mulP]
  | k + 1 => by
    simp only [mulP, Nat.testBit_xor, mulP_xor m a b c k]
    cases b.testBit k <;> cases c.testBit k
    · rfl
    · simp only [Bool.false_xor, Bool.false_eq_true, if_true, if_false]; rw [Nat.xor_assoc]
    · simp only [Bool.xor_false, Bool.false_eq_true, if_true, if_false]; rw [Nat.xor_assoc, Nat.xor_assoc, Nat.xor_comm (mulP m a c k)]
    · simp only [Bool.xor_self, Bool.false_eq_true, if_true, if_false]
      rw [Nat.xor_assoc, Nat.xor_comm (dblN m a k), Nat.xor_assoc, Nat.xor_self, Nat.xor_zero]
theorem ofNat_xor (x y : Nat) : UInt8.ofNat (x ^^^ y) = UInt8.ofNat x ^^^ UInt8.ofNat y := by
  rw [← UInt8.toNat_inj, UInt8.toNat_xor]
  simp only [UInt8.toNat_ofNat']
  exact Nat.xor_mod_two_pow (n := 8)
theorem tm_xor (m : Nat) (a b c : UInt8) : tm m a (b ^^^ c) = tm m a b ^^^ tm m a c := by
  unfold tm mulN; rw [UInt8.toNat_xor, mulP_xor, ofNat_xor]
theorem pow_or {k l : Nat} (h : l < 2 ^ k) : 2 ^ k ||| l = 2 ^ k + l := by
  have := Nat.two_pow_add_eq_or_of_lt h 1; simpa using this.symm
theorem pow_xor {k l : Nat} (h : l < 2 ^ k) : 2 ^ k ^^^ l = 2 ^ k + l := by
  rw [← pow_or h]
  apply Nat.eq_of_testBit_eq
  intro i
  rw [Nat.testBit_xor, Nat.testBit_or, Nat.testBit_two_pow]
  by_cases hi : k = i
  · subst hi; rw [Nat.testBit_lt_two_pow h]; simp
  · simp [hi]
theorem tm_zeroR (m : Nat) (a : UInt8) : tm m a 0 = 0 := by
  have := tm_xor m a 0 0
  simpa using this

theorem xor_swap (a b c d : Nat) : (a ^^^ b) ^^^ (c ^^^ d) = (a ^^^ c) ^^^ (b ^^^ d) := by
  rw [Nat.xor_assoc, Nat.xor_assoc, ← Nat.xor_assoc b c d, ← Nat.xor_assoc c b d, Nat.xor_comm b c]
theorem ge_bit {x : Nat} (h : x < 256) : (256 ≤ 2 * x) ↔ x.testBit 7 = true := by
  constructor
  · intro h2; exact Nat.testBit_of_two_pow_le_and_two_pow_add_one_gt (i := 7) (by omega) (by omega)
  · intro h2
    have := Nat.ge_two_pow_of_testBit h2; omega
theorem dbl_bit (m : Nat) {x : Nat} (h : x < 256) : dbl m x = if x.testBit 7 then (2 * x) ^^^ m else 2 * x := by
  unfold dbl; simp only [ge_bit h]
theorem dbl_xor (m : Nat) {x y : Nat} (hx : x < 256) (hy : y < 256) : dbl m (x ^^^ y) = dbl m x ^^^ dbl m y := by
  rw [dbl_bit m hx, dbl_bit m hy, dbl_bit m (xor_lt (n := 8) hx hy), Nat.testBit_xor, two_xor]
  cases x.testBit 7 <;> cases y.testBit 7
  · rfl
  · simp only [Bool.false_xor, if_true, Bool.false_eq_true, if_false]; rw [Nat.xor_assoc]
  · simp only [Bool.xor_false, if_true, Bool.false_eq_true, if_false]; rw [Nat.xor_assoc, Nat.xor_assoc, Nat.xor_comm (2 * y)]
  · simp only [Bool.xor_self, if_true, Bool.false_eq_true, if_false]
    rw [xor_swap, Nat.xor_self, Nat.xor_zero]
section
variable {m : Nat} (h0 : 256 ≤ m) (h1 : m < 512)
include h0 h1
omit h0 h1 in
theorem dblN_dbl (a : Nat) : ∀ k, dblN m (dbl m a) k = dbl m (dblN m a k)
  | 0 => rfl
  | k + 1 => by show dbl m _ = dbl m _; rw [dblN_dbl a k]; rfl
theorem dblN_xor {x y : Nat} (hx : x < 256) (hy : y < 256) : ∀ k, dblN m (x ^^^ y) k = dblN m x k ^^^ dblN m y k
  | 0 => rfl
  | k + 1 => by show dbl m _ = dbl m _ ^^^ dbl m _; rw [dblN_xor hx hy k, dbl_xor m (dblN_lt h0 h1 hx k) (dblN_lt h0 h1 hy k)]
theorem mulP_dbl {a : Nat} (ha : a < 256) (b : Nat) : ∀ k, mulP m (dbl m a) b k = dbl m (mulP m a b k)
  | 0 => by simp [mulP, dbl]
  | k + 1 => by
    simp only [mulP, mulP_dbl ha b k, dblN_dbl a k]
    split
    · rw [dbl_xor m (mulP_lt h0 h1 ha k) (dblN_lt h0 h1 ha k)]
    · rfl
theorem mulP_xorL {x y : Nat} (hx : x < 256) (hy : y < 256) (b : Nat) : ∀ k, mulP m (x ^^^ y) b k = mulP m x b k ^^^ mulP m y b k
  | 0 => by simp [mulP]
  | k + 1 => by
    simp only [mulP, mulP_xorL hx hy b k, dblN_xor h0 h1 hx hy k]
    split
    · rw [xor_swap]
    · rfl
theorem mulN_dblN {a : Nat} (ha : a < 256) (b : Nat) : ∀ k, mulN m (dblN m a k) b = dblN m (mulN m a b) k
  | 0 => rfl
  | k + 1 => by
    show mulP m (dbl m (dblN m a k)) b 8 = dbl m (dblN m (mulN m a b) k)
    rw [mulP_dbl h0 h1 (dblN_lt h0 h1 ha k)]; exact congrArg _ (mulN_dblN ha b k)
/-- Products one behind the other may change places. -/
theorem mulN_mulP {a : Nat} (ha : a < 256) (b c : Nat) : ∀ k, mulN m (mulP m a b k) c = mulP m (mulN m a c) b k
  | 0 => by
    show mulP m 0 c 8 = 0
    have := mulP_xorL h0 h1 (x := 0) (y := 0) (by omega) (by omega) c 8
    simpa using this
  | k + 1 => by
    simp only [mulP]
    split
    · rw [show mulN m (mulP m a b k ^^^ dblN m a k) c = mulN m (mulP m a b k) c ^^^ mulN m (dblN m a k) c from mulP_xorL h0 h1 (mulP_lt h0 h1 ha k) (dblN_lt h0 h1 ha k) c 8, mulN_mulP ha b c k, mulN_dblN h0 h1 ha c k]
    · exact mulN_mulP ha b c k
omit h0 h1 in
theorem dblN_one : ∀ k, k < 8 → dblN m 1 k = 2 ^ k
  | 0, _ => rfl
  | k + 1, h => by
    show dbl m (dblN m 1 k) = _
    have h2 : 2 ^ k < 128 := Nat.pow_lt_pow_right (n := 7) (by omega) (by omega)
    rw [dblN_one k (by omega)]; unfold dbl; rw [if_neg (by omega), Nat.pow_succ]; omega
omit h0 h1 in
theorem mulP_one (b : Nat) : ∀ k, k ≤ 8 → mulP m 1 b k = b % 2 ^ k
  | 0, _ => by simp [mulP, Nat.mod_one]
  | k + 1, h => by
    simp only [mulP, mulP_one b k (by omega), dblN_one k (by omega)]
    have hlt : b % 2 ^ k < 2 ^ k := Nat.mod_lt _ (Nat.two_pow_pos k)
    have e := Nat.mod_pow_succ (x := b) (b := 2) (k := k)
    have ht : b.testBit k = decide (b / 2 ^ k % 2 = 1) := Nat.testBit_eq_decide_div_mod_eq
    rw [e, ht]
    rcases Nat.mod_two_eq_zero_or_one (b / 2 ^ k) with h2 | h2 <;> rw [h2]
    · simp
    · rw [if_pos (by simp), Nat.xor_comm, pow_xor hlt]; omega
omit h0 h1 in
theorem mulN_one {b : Nat} (hb : b < 256) : mulN m 1 b = b := by
  unfold mulN; rw [mulP_one b 8 (by omega)]; exact Nat.mod_eq_of_lt hb
theorem mulN_comm {a b : Nat} (ha : a < 256) (hb : b < 256) : mulN m a b = mulN m b a := by
  have e := mulN_mulP h0 h1 (a := 1) (by omega) a b 8
  rw [show mulP m 1 a 8 = a from mulN_one ha, mulN_one hb] at e
  exact e
theorem mulN_assoc {a b : Nat} (ha : a < 256) (hb : b < 256) (c : Nat) : mulN m (mulN m a b) c = mulN m a (mulN m b c) := by
  have hbc : mulN m b c < 256 := mulP_lt h0 h1 hb 8
  -- (a b) c = (a c) b ; a (b c) = (b c) a = (b a) c = (a b) c
  rw [mulN_comm h0 h1 ha hbc, show mulN m (mulN m b c) a = mulN m (mulN m b a) c from mulN_mulP h0 h1 hb c a 8, mulN_comm h0 h1 hb ha]
end

section
variable {m : Nat} (h0 : 256 ≤ m) (h1 : m < 512)
include h0 h1
theorem tm_nat (a b : UInt8) : (tm m a b).toNat = mulN m a.toNat b.toNat := by
  unfold tm; exact u8_ofNat_toNat (mulN_lt h0 h1 (u8_lt a))
theorem tm_comm (a b : UInt8) : tm m a b = tm m b a := by
  unfold tm; rw [mulN_comm h0 h1 (u8_lt a) (u8_lt b)]
theorem tm_xorL (a b c : UInt8) : tm m (a ^^^ b) c = tm m a c ^^^ tm m b c := by
  rw [tm_comm h0 h1, tm_xor, tm_comm h0 h1 c, tm_comm h0 h1 c]
theorem tm_assoc (a b c : UInt8) : tm m (tm m a b) c = tm m a (tm m b c) := by
  rw [← UInt8.toNat_inj, tm_nat h0 h1, tm_nat h0 h1, tm_nat h0 h1, tm_nat h0 h1]
  exact mulN_assoc h0 h1 (u8_lt a) (u8_lt b) c.toNat
theorem tm_one (a : UInt8) : tm m 1 a = a := by
  rw [← UInt8.toNat_inj, tm_nat h0 h1]; exact mulN_one (u8_lt a)
theorem tm_oneR (a : UInt8) : tm m a 1 = a := by rw [tm_comm h0 h1, tm_one h0 h1]
end
end Go.Proofs.Ytkgiocoiojdgfaa
/- Powers and orders in a field. Plain. -/
namespace Go.Proofs.Ytkgiocoiojdgfaa
set_option linter.unusedSimpArgs false
set_option linter.unusedVariables false
set_option maxRecDepth 20000
set_option maxHeartbeats 1000000
open Go.Abs

def powN (m : Nat) (a : UInt8) : Nat → UInt8
  | 0 => 1
  | n + 1 => tm m (powN m a n) a
section
variable {m : Nat} (h0 : 256 ≤ m) (h1 : m < 512)
include h0 h1
theorem powN_add (a : UInt8) (i : Nat) : ∀ j, powN m a (i + j) = tm m (powN m a i) (powN m a j)
  | 0 => (tm_oneR h0 h1 _).symm
  | j + 1 => by
    show tm m (powN m a (i + j)) a = tm m (powN m a i) (tm m (powN m a j) a)
    rw [powN_add a i j, tm_assoc h0 h1]
theorem powN_mul (a : UInt8) (i : Nat) : ∀ j, powN m a (i * j) = powN m (powN m a i) j
  | 0 => rfl
  | j + 1 => by
    rw [Nat.mul_succ, powN_add h0 h1, powN_mul a i j]; rfl
theorem powN_one : ∀ n, powN m 1 n = 1
  | 0 => rfl
  | n + 1 => by show tm m (powN m 1 n) 1 = 1; rw [powN_one n, tm_one h0 h1]
theorem sqP_pow (a : UInt8) : ∀ i, sqP m a i = powN m a (2 ^ i)
  | 0 => by show a = tm m 1 a; rw [tm_one h0 h1]
  | i + 1 => by
    show tm m (sqP m a i) (sqP m a i) = _
    rw [sqP_pow a i, ← powN_add h0 h1, ← Nat.two_mul, Nat.pow_succ, Nat.mul_comm]
theorem poP_pow (a : UInt8) (e : Nat) : ∀ i, poP m a e i = powN m a (e % 2 ^ i)
  | 0 => by rw [Nat.pow_zero, Nat.mod_one]; rfl
  | i + 1 => by
    have hm : e % 2 ^ (i + 1) = e % 2 ^ i + 2 ^ i * (e / 2 ^ i % 2) := Nat.mod_pow_succ
    cases hb : e.testBit i
    · rw [poP_f hb, poP_pow a e i, hm]
      have : e / 2 ^ i % 2 = 0 := by
        rw [Nat.testBit_eq_decide_div_mod_eq] at hb
        have := of_decide_eq_false hb
        omega
      rw [this, Nat.mul_zero, Nat.add_zero]
    · rw [poP_t hb, poP_pow a e i, sqP_pow h0 h1, hm]
      have : e / 2 ^ i % 2 = 1 := by
        rw [Nat.testBit_eq_decide_div_mod_eq] at hb
        exact of_decide_eq_true hb
      rw [this, Nat.mul_one, powN_add h0 h1]
theorem po_pow (a : UInt8) (e : Nat) : po m a e = powN m a e := by
  unfold po
  rw [poP_pow h0 h1, Nat.mod_eq_of_lt (lt_blen e)]
end

/-- The order of an element, at most 256. -/
def ordN (m : Nat) (a : UInt8) : Nat := 1 + skip (fun k => powN m a k != 1) 255 1
theorem ordN_lt {m : Nat} {a : UInt8} {k : Nat} (hk : 0 < k) (h : k < ordN m a) : powN m a k ≠ 1 := by
  unfold ordN at h
  have := skip_go _ _ (k - 1) (show k - 1 < skip (fun k => powN m a k != 1) 255 1 by omega)
  rw [show 1 + (k - 1) = k by omega] at this
  simpa using this
theorem ordN_pos (m : Nat) (a : UInt8) : 1 ≤ ordN m a := Nat.le_add_right _ _
theorem ordN_le {m : Nat} {a : UInt8} {k : Nat} (hk : 0 < k) (h : powN m a k = 1) : ordN m a ≤ k := by
  rcases Nat.lt_or_ge k (ordN m a) with h2 | h2
  · exact absurd h (ordN_lt hk h2)
  · exact h2
theorem ordN_is {m : Nat} {a : UInt8} (h : powN m a 255 = 1) : powN m a (ordN m a) = 1 := by
  have hl := ordN_le (by omega) h
  unfold ordN at *
  have := skip_end (p := fun k => powN m a k != 1) 255 1 (by omega)
  simpa using this
theorem ordN_dvd {m : Nat} (h0 : 256 ≤ m) (h1 : m < 512) {a : UInt8} {k : Nat} (h : powN m a 255 = 1) (hk : powN m a k = 1) : k % ordN m a = 0 := by
  have hp := ordN_pos m a
  have ho := ordN_is h
  rcases Nat.eq_zero_or_pos (k % ordN m a) with h2 | h2
  · exact h2
  · refine absurd ?_ (ordN_lt h2 (Nat.mod_lt k hp))
    have e := Nat.div_add_mod k (ordN m a)
    rw [← e, powN_add h0 h1, powN_mul h0 h1, ho, powN_one h0 h1, tm_one h0 h1] at hk
    exact hk

def chkG (m g : Nat) : Bool := po m (UInt8.ofNat g) 255 == 1 && (po m (UInt8.ofNat g) 85 != 1 && (po m (UInt8.ofNat g) 51 != 1 && po m (UInt8.ofNat g) 15 != 1))
def findG (m : Nat) : Nat → Nat → Nat
  | 0, g => g
  | f + 1, g => if chkG m g then g else findG m f (g + 1)
theorem gen_all : ∀ i, i < 256 → fieldB (i + 256) = true → 2 ≤ findG (i + 256) 100 2 ∧ findG (i + 256) 100 2 < 256 ∧ chkG (i + 256) (findG (i + 256) 100 2) = true := by decide +kernel
theorem dvd255 : ∀ d, d < 255 → 0 < d → 255 % d = 0 → 85 % d = 0 ∨ 51 % d = 0 ∨ 15 % d = 0 := by decide +kernel
theorem gen_ex {m : Nat} (h0 : 256 ≤ m) (h1 : m < 512) (hf : fieldB m = true) : ∃ g, 2 ≤ g ∧ g < 256 ∧ powN m (UInt8.ofNat g) 255 = 1 ∧ ordN m (UInt8.ofNat g) = 255 := by
  have := gen_all (m - 256) (by omega) (by rw [show m - 256 + 256 = m by omega]; exact hf)
  rw [show m - 256 + 256 = m by omega] at this
  obtain ⟨a1, a2, a3⟩ := this
  generalize findG m 100 2 = g at *
  unfold chkG at a3
  simp only [Bool.and_eq_true, beq_iff_eq, bne_iff_ne, po_pow h0 h1] at a3
  obtain ⟨b1, b2, b3, b4⟩ := a3
  refine ⟨g, a1, a2, b1, ?_⟩
  have hl := ordN_le (by omega) b1
  have hp := ordN_pos m (UInt8.ofNat g)
  have hd := ordN_dvd h0 h1 b1 b1
  have ho := ordN_is b1
  rcases Nat.lt_or_ge (ordN m (UInt8.ofNat g)) 255 with h | h
  · have key : ∀ k, k % ordN m (UInt8.ofNat g) = 0 → powN m (UInt8.ofNat g) k = 1 := fun k hk => by
      have e := Nat.div_add_mod k (ordN m (UInt8.ofNat g))
      rw [hk, Nat.add_zero] at e
      rw [← e, powN_mul h0 h1, ho, powN_one h0 h1]
    rcases dvd255 _ h hp hd with h2 | h2 | h2
    · exact absurd (key _ h2) b2
    · exact absurd (key _ h2) b3
    · exact absurd (key _ h2) b4
  · omega
theorem tm_zeroL (m : Nat) {a : UInt8} (h0 : 256 ≤ m) (h1 : m < 512) : tm m 0 a = 0 := by rw [tm_comm h0 h1]; exact tm_zeroR m a
/-- Fermat's law. -/
theorem pow255 {m : Nat} (h0 : 256 ≤ m) (h1 : m < 512) (hf : fieldB m = true) {a : UInt8} (ha : a ≠ 0) : powN m a 255 = 1 := by
  obtain ⟨g, _, _, hg, ho⟩ := gen_ex h0 h1 hf
  generalize UInt8.ofNat g = w at *
  have nz : ∀ i, i ≤ 255 → powN m w i ≠ 0 := fun i hi e => by
    have : powN m w (i + (255 - i)) = 0 := by rw [powN_add h0 h1, e, tm_zeroL m h0 h1]
    rw [show i + (255 - i) = 255 by omega, hg] at this
    exact absurd this (by decide)
  have inj : ∀ i j, i < 255 → j < 255 → i < j → powN m w i ≠ powN m w j := fun i j hi hj hij e => by
    have h2 : powN m w (i + (255 - i)) = powN m w (j + (255 - i)) := by rw [powN_add h0 h1, e, ← powN_add h0 h1]
    rw [show i + (255 - i) = 255 by omega, show j + (255 - i) = (j - i) + 255 by omega, powN_add h0 h1 w (j - i) 255, hg, tm_oneR h0 h1] at h2
    exact ordN_lt (show 0 < j - i by omega) (by rw [ho]; omega) h2.symm
  have hpos : ∀ x : UInt8, x ≠ 0 → 0 < x.toNat := fun x hx => Nat.pos_of_ne_zero fun e => hx (UInt8.toNat.inj e)
  obtain ⟨i, hi, e⟩ := inj_surj 255 (fun i => (powN m w i).toNat - 1)
    (fun i hi => by have h2 := u8_lt (powN m w i); have h3 := hpos _ (nz i (by omega)); show (powN m w i).toNat - 1 < 255; omega)
    (fun i j hi hj e => by
      have e' : (powN m w i).toNat - 1 = (powN m w j).toNat - 1 := e
      have h3 := hpos _ (nz i (by omega))
      have h4 := hpos _ (nz j (by omega))
      have h5 : powN m w i = powN m w j := UInt8.toNat.inj (by omega)
      rcases Nat.lt_trichotomy i j with h | h | h
      · exact absurd h5 (inj i j hi hj h)
      · exact h
      · exact absurd h5.symm (inj j i hj hi h))
    (a.toNat - 1) (by have := u8_lt a; have := hpos a ha; omega)
  have e' : (powN m w i).toNat - 1 = a.toNat - 1 := e
  have h3 := hpos _ (nz i (by omega))
  have h4 := hpos a ha
  have h5 : powN m w i = a := UInt8.toNat.inj (by omega)
  rw [← h5, ← powN_mul h0 h1, Nat.mul_comm, powN_mul h0 h1, hg, powN_one h0 h1]
theorem tm_inv {m : Nat} (h0 : 256 ≤ m) (h1 : m < 512) (hf : fieldB m = true) {a : UInt8} (ha : a ≠ 0) : tm m a (inv m a) = 1 := by
  unfold inv
  rw [po_pow h0 h1, tm_comm h0 h1]
  exact pow255 h0 h1 hf ha
end Go.Proofs.Ytkgiocoiojdgfaa
/- Matrices: the reduction's second half undoes the first; mixing is additive. Plain. -/
namespace Go.Proofs.Ytkgiocoiojdgfaa
set_option linter.unusedSimpArgs false
set_option linter.unusedVariables false
set_option maxRecDepth 20000
set_option maxHeartbeats 1000000
open Go.Abs

/-- The sum of the first n products. -/
def dt (m : Nat) (r y : Nat → UInt8) : Nat → UInt8
  | 0 => 0
  | n + 1 => dt m r y n ^^^ tm m (r n) (y n)
theorem dt_cong {m : Nat} {r s y z : Nat → UInt8} : ∀ {n : Nat}, (∀ t, t < n → r t = s t) → (∀ t, t < n → y t = z t) → dt m r y n = dt m s z n
  | 0, _, _ => rfl
  | n + 1, h, h2 => by
    show dt m r y n ^^^ tm m (r n) (y n) = dt m s z n ^^^ tm m (s n) (z n)
    rw [dt_cong (fun t ht => h t (by omega)) (fun t ht => h2 t (by omega)), h n (by omega), h2 n (by omega)]
theorem xor4 (a b c d : UInt8) : (a ^^^ b) ^^^ (c ^^^ d) = (a ^^^ c) ^^^ (b ^^^ d) := by
  rw [UInt8.xor_assoc, UInt8.xor_assoc, ← UInt8.xor_assoc b c d, ← UInt8.xor_assoc c b d, UInt8.xor_comm b c]
section
variable {m : Nat} (h0 : 256 ≤ m) (h1 : m < 512)
include h0 h1
theorem dt_xor (r s y : Nat → UInt8) : ∀ n, dt m (fun t => r t ^^^ s t) y n = dt m r y n ^^^ dt m s y n
  | 0 => UInt8.xor_self.symm
  | n + 1 => by
    show dt m (fun t => r t ^^^ s t) y n ^^^ tm m (r n ^^^ s n) (y n) = (dt m r y n ^^^ tm m (r n) (y n)) ^^^ (dt m s y n ^^^ tm m (s n) (y n))
    rw [dt_xor r s y n, tm_xorL h0 h1, xor4]
theorem dt_scl (r y : Nat → UInt8) (v : UInt8) : ∀ n, dt m (fun t => tm m (r t) v) y n = tm m (dt m r y n) v
  | 0 => (tm_zero m v).symm
  | n + 1 => by
    show dt m (fun t => tm m (r t) v) y n ^^^ tm m (tm m (r n) v) (y n) = tm m (dt m r y n ^^^ tm m (r n) (y n)) v
    rw [dt_scl r y v n, tm_xorL h0 h1, tm_assoc h0 h1, tm_comm h0 h1 v, ← tm_assoc h0 h1]
theorem dt_sclL (r y : Nat → UInt8) (f : UInt8) : ∀ n, dt m (fun t => tm m f (r t)) y n = tm m f (dt m r y n)
  | 0 => (tm_zeroR m f).symm
  | n + 1 => by
    show dt m (fun t => tm m f (r t)) y n ^^^ tm m (tm m f (r n)) (y n) = tm m f (dt m r y n ^^^ tm m (r n) (y n))
    rw [dt_sclL r y f n, tm_xor, tm_assoc h0 h1]
end
/-- Row i of a matrix times a column. -/
def D (m : Nat) (x z : Nat → UInt8) (i : Nat) : UInt8 := dt m (fun t => x (i * 4 + t)) z 4
theorem swp_at (x : Nat → UInt8) {p k i t : Nat} (ht : t < 4) : swp x p k (i * 4 + t) = if i = k then x (p * 4 + t) else if i = p then x (k * 4 + t) else x (i * 4 + t) := by
  unfold swp
  by_cases hk : i = k
  · subst hk
    rw [if_pos rfl]
    show (if i * 4 ≤ i * 4 + t ∧ i * 4 + t < i * 4 + 4 then x (p * 4 + (i * 4 + t - i * 4)) else _) = _
    rw [if_pos (by omega)]; congr 1; omega
  · rw [over_out (by omega), if_neg hk]
    by_cases hp : i = p
    · subst hp
      rw [if_pos rfl]
      show (if i * 4 ≤ i * 4 + t ∧ i * 4 + t < i * 4 + 4 then x (k * 4 + (i * 4 + t - i * 4)) else _) = _
      rw [if_pos (by omega)]; congr 1; omega
    · rw [over_out (by omega), if_neg hp]
theorem scl_row (m : Nat) (x : Nat → UInt8) (v : UInt8) {k i t : Nat} (ht : t < 4) : scl m x k v 4 (i * 4 + t) = if i = k then tm m (x (k * 4 + t)) v else x (i * 4 + t) := by
  unfold scl
  by_cases hk : i = k
  · subst hk
    rw [if_pos rfl]
    show (if i * 4 ≤ i * 4 + t ∧ i * 4 + t < i * 4 + 4 then tm m (x (i * 4 + (i * 4 + t - i * 4))) v else _) = _
    rw [if_pos (by omega), show i * 4 + t - i * 4 = t by omega]
  · rw [over_out (by omega), if_neg hk]
theorem elm_row (m : Nat) (f : UInt8) (x : Nat → UInt8) {k r i t : Nat} (ht : t < 4) : elm m f k r x 4 (i * 4 + t) = if i = r then x (r * 4 + t) ^^^ tm m f (x (k * 4 + t)) else x (i * 4 + t) := by
  unfold elm
  by_cases hk : i = r
  · subst hk
    rw [if_pos rfl]
    show (if i * 4 ≤ i * 4 + t ∧ i * 4 + t < i * 4 + 4 then x (i * 4 + (i * 4 + t - i * 4)) ^^^ tm m f (x (k * 4 + (i * 4 + t - i * 4))) else _) = _
    rw [if_pos (by omega), show i * 4 + t - i * 4 = t by omega]
  · rw [over_out (by omega), if_neg hk]
theorem D_swp (m : Nat) (x z : Nat → UInt8) (p k i : Nat) : D m (swp x p k) z i = if i = k then D m x z p else if i = p then D m x z k else D m x z i := by
  unfold D
  by_cases hk : i = k
  · rw [if_pos hk]; exact dt_cong (fun t ht => by rw [swp_at x ht, if_pos hk]) (fun _ _ => rfl)
  · rw [if_neg hk]
    by_cases hp : i = p
    · rw [if_pos hp]; exact dt_cong (fun t ht => by rw [swp_at x ht, if_neg hk, if_pos hp]) (fun _ _ => rfl)
    · rw [if_neg hp]; exact dt_cong (fun t ht => by rw [swp_at x ht, if_neg hk, if_neg hp]) (fun _ _ => rfl)
section
variable {m : Nat} (h0 : 256 ≤ m) (h1 : m < 512)
include h0 h1
theorem D_scl (x z : Nat → UInt8) (v : UInt8) (k i : Nat) : D m (scl m x k v 4) z i = if i = k then tm m (D m x z k) v else D m x z i := by
  unfold D
  by_cases hk : i = k
  · rw [if_pos hk, ← dt_scl h0 h1]; exact dt_cong (fun t ht => by rw [scl_row m x v ht, if_pos hk]) (fun _ _ => rfl)
  · rw [if_neg hk]; exact dt_cong (fun t ht => by rw [scl_row m x v ht, if_neg hk]) (fun _ _ => rfl)
theorem D_elm (x z : Nat → UInt8) (f : UInt8) (k r i : Nat) : D m (elm m f k r x 4) z i = if i = r then D m x z r ^^^ tm m f (D m x z k) else D m x z i := by
  unfold D
  by_cases hk : i = r
  · rw [if_pos hk, ← dt_sclL h0 h1, ← dt_xor h0 h1]; exact dt_cong (fun t ht => by rw [elm_row m f x ht, if_pos hk]) (fun _ _ => rfl)
  · rw [if_neg hk]; exact dt_cong (fun t ht => by rw [elm_row m f x ht, if_neg hk]) (fun _ _ => rfl)
/-- The same steps on both halves keep their images alike. -/
theorem elN_D {a b v y : Nat → UInt8} {k : Nat} (hk : k < 4) (h : ∀ i, i < 4 → D m b v i = D m a y i) : ∀ r, r ≤ 4 → ∀ i, i < 4 → D m (elN m k a b r).2 v i = D m (elN m k a b r).1 y i
  | 0, _, i, hi => h i hi
  | r + 1, hr, i, hi => by
    have ih := elN_D hk h r (by omega)
    by_cases hrk : r = k
    · subst hrk; rw [elN_same]; exact ih i hi
    · rw [elN_other hrk]
      show D m (elm m _ k r _ 4) v i = D m (elm m _ k r _ 4) y i
      rw [D_elm h0 h1, D_elm h0 h1, ih i hi, ih k hk, ih r (by omega)]
theorem stepR_D {k : Nat} {s : RS} {v y : Nat → UInt8} (hk : k < 4) (hp : piv s.a k < 4) (h : ∀ i, i < 4 → D m s.b v i = D m s.a y i) : ∀ i, i < 4 → D m (stepR m k s).b v i = D m (stepR m k s).a y i := by
  refine elN_D h0 h1 hk (fun i hi => ?_) 4 (Nat.le_refl _)
  have hs : ∀ i, i < 4 → D m (swp s.b (piv s.a k) k) v i = D m (swp s.a (piv s.a k) k) y i := fun i hi => by
    rw [D_swp, D_swp, h i hi, h _ hp, h k hk]
  rw [D_scl h0 h1, D_scl h0 h1, hs i hi, hs k hk]
omit h0 h1 in
theorem sing_piv {a : Nat → UInt8} : ∀ {n : Nat}, sing m a n = false → ∀ k, k < n → piv (rs m a k).a k ≠ 4
  | 0, _, k, hk => absurd hk (by omega)
  | n + 1, h, k, hk => by
    rw [sing, Bool.or_eq_false_iff] at h
    by_cases e : k = n
    · subst e; simpa using h.2
    · exact sing_piv h.1 k (by omega)
theorem D_unit (v : Nat → UInt8) {i : Nat} (hi : i < 4) : D m unitF v i = v i := by
  have e : ∀ t, t < 4 → unitF (i * 4 + t) = if t = i then 1 else 0 := fun t ht => by
    unfold unitF unitP
    by_cases h : t = i
    · rw [if_pos h, if_pos (by omega)]
    · rw [if_neg h, if_neg (by omega)]
  show 0 ^^^ tm m (unitF (i * 4 + 0)) (v 0) ^^^ tm m (unitF (i * 4 + 1)) (v 1) ^^^ tm m (unitF (i * 4 + 2)) (v 2) ^^^ tm m (unitF (i * 4 + 3)) (v 3) = v i
  rw [e 0 (by omega), e 1 (by omega), e 2 (by omega), e 3 (by omega)]
  have hcase : i = 0 ∨ i = 1 ∨ i = 2 ∨ i = 3 := by omega
  rcases hcase with rfl | rfl | rfl | rfl <;> simp [tm_zero, tm_one h0 h1]
theorem rs_D (a y : Nat → UInt8) : ∀ k, k ≤ 4 → sing m a k = false → ∀ i, i < 4 → D m (rs m a k).b (D m a y) i = D m (rs m a k).a y i
  | 0, _, _, i, hi => D_unit h0 h1 _ hi
  | k + 1, hk, hs, i, hi => by
    have hp := sing_piv hs k (by omega)
    have hle := piv_le (rs m a k).a (show k < 4 by omega)
    rw [sing, Bool.or_eq_false_iff] at hs
    exact stepR_D h0 h1 (by omega) (by omega) (rs_D a y k (by omega) hs.1) i hi
end
/-- The first k columns are the unit matrix's. -/
def Un (a : Nat → UInt8) (k : Nat) : Prop := ∀ i, i < 4 → ∀ j, j < k → a (i * 4 + j) = if i = j then 1 else 0
section
variable {m : Nat} (h0 : 256 ≤ m) (h1 : m < 512)
theorem elN_key {a b : Nat → UInt8} {k : Nat} (hk : k < 4) : ∀ r, r ≤ 4 → ∀ t, t < 4 → (elN m k a b r).1 (k * 4 + t) = a (k * 4 + t)
  | 0, _, t, _ => rfl
  | r + 1, hr, t, ht => by
    by_cases hrk : r = k
    · subst hrk; rw [elN_same]; exact elN_key hk r (by omega) t ht
    · rw [elN_other hrk]
      show elm m _ k r _ 4 (k * 4 + t) = _
      rw [elm_row m _ _ ht, if_neg (by omega)]
      exact elN_key hk r (by omega) t ht
theorem elN_lo {a b : Nat → UInt8} {k j : Nat} (hk : k < 4) (hj : j < k) (hz : a (k * 4 + j) = 0) : ∀ r, r ≤ 4 → ∀ i, i < 4 → (elN m k a b r).1 (i * 4 + j) = a (i * 4 + j)
  | 0, _, i, _ => rfl
  | r + 1, hr, i, hi => by
    have ih := elN_lo (b := b) hk hj hz r (by omega)
    by_cases hrk : r = k
    · subst hrk; rw [elN_same]; exact ih i hi
    · rw [elN_other hrk]
      show elm m _ k r _ 4 (i * 4 + j) = _
      rw [elm_row m _ _ (by omega)]
      by_cases hir : i = r
      · subst hir
        rw [if_pos rfl, elN_key hk i (by omega) j (by omega), hz, tm_zeroR, UInt8.xor_zero]
        exact ih i hi
      · rw [if_neg hir]; exact ih i hi
include h0 h1 in
theorem elN_col {a b : Nat → UInt8} {k : Nat} (hk : k < 4) (hz : a (k * 4 + k) = 1) : ∀ r, r ≤ 4 → ∀ i, i < r → i ≠ k → (elN m k a b r).1 (i * 4 + k) = 0
  | 0, _, i, hi, _ => absurd hi (by omega)
  | r + 1, hr, i, hi, hik => by
    by_cases hrk : r = k
    · subst hrk; rw [elN_same]; exact elN_col hk hz r (by omega) i (by omega) hik
    · rw [elN_other hrk]
      show elm m _ k r _ 4 (i * 4 + k) = _
      rw [elm_row m _ _ hk]
      by_cases hir : i = r
      · subst hir
        rw [if_pos rfl, elN_key hk i (by omega) k hk, hz, tm_oneR h0 h1, UInt8.xor_self]
      · rw [if_neg hir]; exact elN_col hk hz r (by omega) i (by omega) hik
include h0 h1 in
theorem stepR_U (hf : fieldB m = true) {k : Nat} {s : RS} (hk : k < 4) (hp : piv s.a k < 4) (h : Un s.a k) : Un (stepR m k s).a (k + 1) := by
  have hle := (piv_le s.a hk).1
  have hnz := piv_end hk hp
  generalize hpe : piv s.a k = p at hp hle hnz
  have w : swp s.a p k (k * 4 + k) = s.a (p * 4 + k) := by rw [swp_at s.a hk, if_pos rfl]
  have hw : s.a (p * 4 + k) ≠ 0 := by simpa using hnz
  have hs : Un (swp s.a p k) k := fun i hi j hj => by
    rw [swp_at s.a (by omega)]
    by_cases hik : i = k
    · rw [if_pos hik, h p hp j hj, if_neg (by omega), if_neg (by omega)]
    · rw [if_neg hik]
      by_cases hip : i = p
      · rw [if_pos hip, h k hk j hj, if_neg (by omega), if_neg (by omega)]
      · rw [if_neg hip, h i hi j hj]
  have hc : Un (scl m (swp s.a p k) k (inv m (swp s.a p k (k * 4 + k))) 4) k := fun i hi j hj => by
    rw [scl_row m _ _ (by omega)]
    by_cases hik : i = k
    · rw [if_pos hik, hs k hk j hj, if_neg (by omega), if_neg (by omega), tm_zero]
    · rw [if_neg hik, hs i hi j hj]
  have h11 : scl m (swp s.a p k) k (inv m (swp s.a p k (k * 4 + k))) 4 (k * 4 + k) = 1 := by
    rw [scl_row m _ _ hk, if_pos rfl, w, tm_inv h0 h1 hf hw]
  intro i hi j hj
  unfold stepR
  rw [hpe]
  by_cases hjk : j < k
  · show (elN m k _ _ 4).1 (i * 4 + j) = _
    rw [elN_lo hk hjk (by rw [hc k hk j hjk, if_neg (by omega)]) 4 (by omega) i hi, hc i hi j hjk]
  · have hjk : j = k := by omega
    subst hjk
    show (elN m j _ _ 4).1 (i * 4 + j) = _
    by_cases hij : i = j
    · subst hij
      rw [if_pos rfl, elN_key hi 4 (by omega) i hi, h11]
    · rw [if_neg hij, elN_col h0 h1 hk h11 4 (by omega) i hi hij]
include h0 h1 in
theorem rs_U (hf : fieldB m = true) (a : Nat → UInt8) : ∀ k, k ≤ 4 → sing m a k = false → Un (rs m a k).a k
  | 0, _, _ => fun i _ j hj => absurd hj (by omega)
  | k + 1, hk, hs => by
    have hp := sing_piv hs k (by omega)
    have hle := piv_le (rs m a k).a (show k < 4 by omega)
    rw [sing, Bool.or_eq_false_iff] at hs
    exact stepR_U h0 h1 hf (by omega) (by omega) (rs_U hf a k (by omega) hs.1)
include h0 h1 in
/-- The inverse undoes a matrix. -/
theorem backF_D (hf : fieldB m = true) {a : Nat → UInt8} (hd : detF m a ≠ 0) (y : Nat → UInt8) {i : Nat} (hi : i < 4) : D m (backF m a) (D m a y) i = y i := by
  have hs : sing m a 4 = false := by
    cases hs : sing m a 4 with
    | false => rfl
    | true => exact absurd (by unfold detF; rw [hs]; rfl) hd
  have hb : backF m a = (rs m a 4).b := by unfold backF; rw [hs]; rfl
  rw [hb, rs_D h0 h1 a y 4 (by omega) hs i hi]
  have hU := rs_U h0 h1 hf a 4 (by omega) hs
  rw [← D_unit h0 h1 y hi]
  unfold D
  refine dt_cong (fun t ht => ?_) (fun _ _ => rfl)
  rw [hU i hi t ht]
  unfold unitF unitP
  by_cases h : i = t
  · rw [if_pos h, if_pos (by omega)]
  · rw [if_neg h, if_neg (by omega)]
end
end Go.Proofs.Ytkgiocoiojdgfaa
/- Interpolation: both ways of reckoning it give the same. Plain Lean. -/
namespace Go.Proofs.Ytkgiocoiojdgfaa
set_option linter.unusedSimpArgs false
set_option linter.unusedVariables false
set_option maxRecDepth 20000
set_option maxHeartbeats 1000000
open Go.Abs

/-- A row and the row shifted by one, added: the first n elements taken. -/
def stp (c0 c1 : Nat → UInt8) (n : Nat) : Nat → UInt8 := fun j => if j < n then (if j = 0 then c0 0 else c1 (j - 1) ^^^ c0 j) else if j = n ∧ 0 < n then c1 (n - 1) else 0
/-- How long the polynomial is after k places, the i-th left out. -/
def lagL (i k : Nat) : Nat := if i < k then k else k + 1
def own0 : Nat → UInt8 := fun n => if n = 0 then 1 else 0
section
variable (m : Nat) (f v : Nat → UInt8) (i : Nat)
def own : Nat → Nat → UInt8
  | 0 => own0
  | k + 1 => if k = i then own k else stp (fun n => tm m (own k n) (f k)) (own k) (lagL i k)
def part : Nat → Nat → UInt8
  | 0 => own0
  | k + 1 => if k = i then part k else stp (fun n => tm m (tm m (part k n) (f k)) (inv m (f i ^^^ f k))) (fun n => tm m (part k n) (inv m (f i ^^^ f k))) (lagL i k)
end
section
variable {m : Nat} {f v : Nat → UInt8} {i k : Nat}
end
end Go.Proofs.Ytkgiocoiojdgfaa
/- Roots, traces, quadratic equations, values of polynomials. Plain. -/
namespace Go.Proofs.Ytkgiocoiojdgfaa
set_option linter.unusedSimpArgs false
set_option linter.unusedVariables false
set_option maxRecDepth 20000
set_option maxHeartbeats 1000000
open Go.Abs

section
variable {m : Nat} (h0 : 256 ≤ m) (h1 : m < 512)
include h0 h1
variable (hf : fieldB m = true)
include hf
theorem tm_nz {a b : UInt8} (h : tm m a b = 0) : a = 0 ∨ b = 0 := by
  by_cases ha : a = 0
  · exact .inl ha
  · right
    have h2 := congrArg (tm m (inv m a)) h
    rwa [← tm_assoc h0 h1, tm_comm h0 h1 (inv m a), tm_inv h0 h1 hf ha, tm_one h0 h1, tm_zeroR] at h2
end
/-- The value of the k uppermost of n coefficients, reckoned from above. -/
def hor (m : Nat) (c : Nat → UInt8) (x : UInt8) (n : Nat) : Nat → UInt8
  | 0 => 0
  | k + 1 => tm m (hor m c x n k) x ^^^ c (n - 1 - k)
section
variable {m : Nat} (h0 : 256 ≤ m) (h1 : m < 512)
include h0 h1
end
end Go.Proofs.Ytkgiocoiojdgfaa
/- Reducing a matrix: the reference. -/
namespace Go.Proofs.Ytkgiocoiojdgfaa
set_option linter.unusedSimpArgs false
set_option linter.unusedVariables false
set_option maxRecDepth 20000
set_option maxHeartbeats 1000000
open Go.Abs

set_option maxHeartbeats 8000000 in
theorem redS_ac {m : Nat} (h0 : 256 ≤ m) (h1 : m < 512) (a : Nat → UInt8) (h : List Blk) : AC Try.prog 177 [.int .i64 m, .agg (Bs 16 a).toArray] h (.tuple #[B (detF m a), .agg (Bs 16 (backF m a)).toArray]) h := by
  (refine AC_begin (fun _ _ => Try.call177 _ _) Try.func177 rfl Try.ntmps177 Try.results177 (fun hwf => ?_); simp only [List.length_cons, List.length_nil, Nat.reduceAdd, Nat.reduceSub, List.replicate, List.cons_append, List.nil_append])
  (repeat (first | ((first | (refine And.intro ?_ ?_; focus (first | exact plain_agg (by simp only [go_sem]) | exact plain_two (by first | exact plain_agg (by simp only [go_sem]) | rfl) rfl | rfl)) | ((first | with_reducible apply callB_i | with_reducible apply callK_intro | with_reducible apply callQ_i); (focus (first | assumption | (with_reducible apply unitS_ac <;> (first | assumption | rfl | (simp (disch := omega) only [go_sem]; first | done | rfl) | omega | decide | (simp; done))))); (try (focus (refine WP.mk ?_ ?_; (focus ((repeat (first | exact trivial | (refine And.intro ?_ ?_; (focus first | exact plainV_wf rfl | (refine plainV_wf (plain_agg ?_); simp only [go_sem]; done) | (simp only [wfV, wf1, wfC, List.length_append, List.length_cons, List.length_nil]; omega))))))); (focus (first | rfl | (refine plain_agg ?_; simp only [go_sem]; done) | (refine plain_two ?_ ?_ <;> first | rfl | (refine plain_agg ?_; simp only [go_sem]; done)))))))) | refine WA_seq (WA_region ?_) | refine WA_region ?_ | refine WA_exit ?_); try simp (maxSteps := 1000000) (disch := first | omega | rfl | decide | (simp only [List.length_cons, List.length_nil, List.length_append, Bs_length, Is_length, Vs_length, Bl_length, Il_length] <;> omega)) only [go_sem, Nat.reduceAdd, Int.reduceAdd, Int.reduceSub, Int.reduceMul, Bool.not_true, Bool.not_false, yieldA_at 2 25, yieldA_at 2 114]) | refine WA_seq ?_ | refine WA_block ?_ | (refine WA_skip ?_; try simp only [go_sem]) | (refine WA_ret ?_; try simp only [go_sem]) | refine WA_ct rfl ?_ | refine WA_cf rfl ?_))
  refine WA_forPJ (fun k => sing m a k = false) (fun k => [(4, J), (7, B (rs m a k).d), (8, .int .i64 k), (9, J), (10, J), (11, J), (12, J), (13, J), (14, J), (15, J), (16, J), (18, J), (19, J), (20, J), (21, J), (22, J), (23, J), (24, J), (25, J), (26, J), (27, J), (28, J), (29, J), (30, J), (31, J), (32, J), (33, J), (34, J), (35, J), (36, J), (37, J), (38, J), (39, J), (40, J), (41, J), (42, J), (43, J), (44, J), (45, J), (46, J), (47, J), (48, J), (49, J), (50, J), (51, J), (52, J), (53, J), (54, J), (55, J), (56, J), (57, J), (58, J), (59, J), (60, J), (61, J), (62, J), (63, J), (64, J), (65, J), (66, J), (67, J), (68, J), (69, J), (70, J), (71, J), (72, J), (73, J), (74, J), (75, J), (76, J), (77, J), (78, J), (79, J), (80, J), (81, J), (82, J), (83, J), (84, J), (85, J), (86, J), (87, J), (88, J), (89, J), (90, J), (91, J), (92, J), (93, J), (94, J), (95, J), (96, J), (97, J), (98, J), (99, J), (100, J), (101, J), (102, J), (103, J), (104, J), (105, J), (106, J), (107, J), (108, J), (109, J), (110, J), (111, J), (112, J), (113, J), (114, J), (115, J), (116, J), (117, J), (118, J), (119, J), (120, J), (121, J), (122, J), (123, J), (124, J), (125, J), (126, J), (127, J), (128, J), (129, J), (130, J), (131, J), (132, J), (133, J), (134, J), (135, J), (136, J), (137, J), (138, J), (139, J), (140, J), (141, J), (142, J), (143, J), (144, J), (145, J), (146, J), (147, J), (148, J), (149, J), (150, J), (151, J), (152, J), (153, J), (154, J), (155, J), (156, J)]) (fun k => [(0, ⟨Bs 16 (rs m a k).a, true⟩), (2, ⟨Bs 16 (rs m a k).b, true⟩)]) (4) ?_ ?_ ?_ ?_ <;> (try simp only [patT_cons, patT_nil, patL_cons, patL_nil, list_set_zero, list_set_succ, blk_set_zero, blk_set_succ])
  · rfl
  · (refine Drop_slots (by first | exact Nat.le_refl _ | simp) ?_; focus ((try simp only [JL_same, JL_J, JL_nil, Int.reduceAdd, Nat.sub_sub, Int.natCast_add, Int.natCast_one, Int.natCast_zero, Int.cast_ofNat_Int, Nat.add_zero, Bool.false_eq_true, if_false, if_true, rs]); (try exact JL_refl _)))
  · intro kk hk hJ
    have hs : rs m a (kk + 1) = stepR m kk (rs m a kk) := rfl
    rw [hs]
    have hmono := sing_mono (m := m) (a := a) hk
    have hnext := sing_next hJ
    clear hs hJ
    generalize rs m a kk = s at *
    obtain ⟨A, C, d⟩ := s
    simp only [] at *
    unfold stepR
    simp only []
    have hpl := piv_le A hk
    have hpe : piv A kk = kk + pivC A kk := rfl
    (repeat (first | ((first | (refine And.intro ?_ ?_; focus (first | exact plain_agg (by simp only [go_sem]) | exact plain_two (by first | exact plain_agg (by simp only [go_sem]) | rfl) rfl | rfl)) | refine WA_seq (WA_region ?_) | refine WA_region ?_ | refine WA_exit ?_); try simp (maxSteps := 1000000) (disch := first | omega | rfl | decide | (simp only [List.length_cons, List.length_nil, List.length_append, Bs_length, Is_length, Vs_length, Bl_length, Il_length] <;> omega)) only [go_sem, Nat.reduceAdd, Int.reduceAdd, Int.reduceSub, Int.reduceMul, Bool.not_true, Bool.not_false, yieldA_at 2 25, yieldA_at 2 114]) | refine WA_seq ?_ | refine WA_block ?_ | (refine WA_skip ?_; try simp only [go_sem]) | (refine WA_ret ?_; try simp only [go_sem]) | refine WA_ct rfl ?_ | refine WA_cf rfl ?_))
    refine WA_forP (fun k => [(9, .int .i64 ((kk + k : Nat))), (23, J), (24, J), (25, J), (26, J), (27, J), (28, J), (29, J), (30, J), (31, J), (32, J), (33, J), (34, J)]) (fun k => []) (pivC A kk) ?_ ?_ ?_ <;> (try simp only [patT_cons, patT_nil, patL_cons, patL_nil, list_set_zero, list_set_succ, blk_set_zero, blk_set_succ])
    · (refine Drop_slots (by first | exact Nat.le_refl _ | simp) ?_; focus ((try simp only [JL_same, JL_J, JL_nil, Int.reduceAdd, Nat.sub_sub, Int.natCast_add, Int.natCast_one, Int.natCast_zero, Int.cast_ofNat_Int, Nat.add_zero, Bool.false_eq_true, if_false, if_true]); (try exact JL_refl _)))
    · intro r hr
      have hg := piv_go hr
      have hg2 := hg.2
      have hd := decide_eq_true hg.1
      (repeat (first | ((first | (refine And.intro ?_ ?_; focus (first | exact plain_agg (by simp only [go_sem]) | exact plain_two (by first | exact plain_agg (by simp only [go_sem]) | rfl) rfl | rfl)) | refine WA_seq (WA_region ?_) | refine WA_region ?_ | refine WA_exit ?_); try simp (maxSteps := 1000000) (disch := first | omega | rfl | decide | (simp only [List.length_cons, List.length_nil, List.length_append, Bs_length, Is_length, Vs_length, Bl_length, Il_length] <;> omega)) only [go_sem, Nat.reduceAdd, Int.reduceAdd, Int.reduceSub, Int.reduceMul, Bool.not_true, Bool.not_false, hg2, hd, yieldA_at 2 25, yieldA_at 2 114]) | refine WA_seq ?_ | refine WA_block ?_ | (refine WA_skip ?_; try simp only [go_sem]) | (refine WA_ret ?_; try simp only [go_sem]) | refine WA_ct rfl ?_ | refine WA_cf rfl ?_))
      (refine Drop_slots (by first | exact Nat.le_refl _ | simp) ?_; focus ((try simp only [JL_same, JL_J, JL_nil, Int.reduceAdd, Nat.sub_sub, Int.natCast_add, Int.natCast_one, Int.natCast_zero, Int.cast_ofNat_Int, Nat.add_zero, Bool.false_eq_true, if_false, if_true, Nat.add_assoc]); (try exact JL_refl _)))
    · by_cases h4 : piv A kk = 4
      · have h4' : kk + pivC A kk = 4 := h4
        have hd : decide (kk + pivC A kk < 4) = false := decide_eq_false (by omega)
        (repeat (first | ((first | (refine And.intro ?_ ?_; focus (first | exact plain_agg (by simp only [go_sem]) | exact plain_two (by first | exact plain_agg (by simp only [go_sem]) | rfl) rfl | rfl)) | refine WA_seq (WA_region ?_) | refine WA_region ?_ | refine WA_exit ?_); try simp (maxSteps := 1000000) (disch := first | omega | rfl | decide | (simp only [List.length_cons, List.length_nil, List.length_append, Bs_length, Is_length, Vs_length, Bl_length, Il_length] <;> omega)) only [go_sem, Nat.reduceAdd, Int.reduceAdd, Int.reduceSub, Int.reduceMul, Bool.not_true, Bool.not_false, hd, yieldA_at 2 25, yieldA_at 2 114]) | refine WA_seq ?_ | refine WA_block ?_ | (refine WA_skip ?_; try simp only [go_sem]) | (refine WA_ret ?_; try simp only [go_sem]) | refine WA_ct rfl ?_ | refine WA_cf rfl ?_))
        ((first | refine ret_none (by first | exact .inr rfl | exact .inl rfl) ?_ | refine ret_same (by first | exact .inr rfl | exact .inl rfl) ?_ (by first | rfl | exact plain_agg (by simp only [go_sem]) | exact plain_two (by first | exact plain_agg (by simp only [go_sem]) | rfl) (by first | exact plain_agg (by simp only [go_sem]) | rfl)) | refine ret_full (by first | exact .inr rfl | exact .inl rfl) (by simp) ?_); simp (maxSteps := 1000000) (disch := first | omega | rfl | decide | (simp only [List.length_cons, List.length_nil, List.length_append, Bs_length, Is_length, Vs_length, Bl_length, Il_length] <;> omega)) only [go_sem, Nat.reduceAdd, Int.reduceAdd, Int.reduceSub, Int.reduceMul, Bool.not_true, Bool.not_false, detF, backF, hmono h4, zeroF]; try rfl)
      · have hpf := piv_end (a := A) hk (by omega)
        have hnx := hnext h4
        clear hmono hnext
        rw [← hpe]
        have hi4 : piv A kk < 4 := by omega
        clear hpl hpe h4
        generalize piv A kk = i at *
        have hd := decide_eq_true hi4
        (repeat (first | ((first | (refine And.intro ?_ ?_; focus (first | exact plain_agg (by simp only [go_sem]) | exact plain_two (by first | exact plain_agg (by simp only [go_sem]) | rfl) rfl | rfl)) | refine WA_seq (WA_region ?_) | refine WA_region ?_ | refine WA_exit ?_); try simp (maxSteps := 1000000) (disch := first | omega | rfl | decide | (simp only [List.length_cons, List.length_nil, List.length_append, Bs_length, Is_length, Vs_length, Bl_length, Il_length] <;> omega)) only [go_sem, Nat.reduceAdd, Int.reduceAdd, Int.reduceSub, Int.reduceMul, Bool.not_true, Bool.not_false, hpf, hd, yieldA_at 2 25, yieldA_at 2 114]) | refine WA_seq ?_ | refine WA_block ?_ | (refine WA_skip ?_; try simp only [go_sem]) | (refine WA_ret ?_; try simp only [go_sem]) | refine WA_ct rfl ?_ | refine WA_cf rfl ?_))
        refine WA_midP [(9, .int .i64 (i)), (10, pt (h.length + 3) 0), (11, pt (h.length + 4) 0), (38, J), (39, J), (40, J), (41, J), (42, J), (43, J)] [⟨Bs 16 A, true⟩, ⟨Bs 16 (fun _ => 0), true⟩, ⟨Bs 16 C, true⟩, ⟨Bs 4 (fun t => A (i * 4 + t)), true⟩, ⟨Bs 4 (fun t => C (i * 4 + t)), true⟩] ?_ ?_ <;> (try simp only [patT_cons, patT_nil, patL_cons, patL_nil, list_set_zero, list_set_succ, blk_set_zero, blk_set_succ])
        · (repeat (first | ((first | (refine And.intro ?_ ?_; focus (first | exact plain_agg (by simp only [go_sem]) | exact plain_two (by first | exact plain_agg (by simp only [go_sem]) | rfl) rfl | rfl)) | refine WA_seq (WA_region ?_) | refine WA_region ?_ | refine WA_exit ?_); try simp (maxSteps := 1000000) (disch := first | omega | rfl | decide | (simp only [List.length_cons, List.length_nil, List.length_append, Bs_length, Is_length, Vs_length, Bl_length, Il_length] <;> omega)) only [go_sem, Nat.reduceAdd, Int.reduceAdd, Int.reduceSub, Int.reduceMul, Bool.not_true, Bool.not_false, yieldA_at 2 25, yieldA_at 2 114]) | (refine (WA_rb (id := 10) [9] (SubM.refl _) mixedOk ?_); simp only [List.size_toArray, List.length_cons, List.length_nil]; (repeat' (first | ((first | (refine And.intro ?_ ?_; focus (first | exact plain_agg (by simp only [go_sem]) | exact plain_two (by first | exact plain_agg (by simp only [go_sem]) | rfl) rfl | rfl)) | refine RB_take false [0, 1, 3, 4] 6 (by rfl) (by kernel_rfl) (by decide) (by decide +kernel) ?_ | refine RB_take true [2, 5] 4 (by rfl) (by kernel_rfl) (by decide) (by decide +kernel) ?_ | refine RB_twoK 6 7 _ (by rfl) (by decide +kernel) (by first | (simp only [go_sem]; done) | fail) (by first | (simp only [go_sem]; done) | fail) ?_ ?_ | refine RB_keep 7 _ (by rfl) (by decide +kernel) (by first | (simp (disch := first | omega | decide) only [go_sem, List.getElem?_nil]; done) | fail) ?_ | refine RB_keep 8 _ (by rfl) (by decide +kernel) (by first | (simp (disch := first | omega | decide) only [go_sem, List.getElem?_nil]; done) | fail) ?_ | refine RB_exec 9 _ (by rfl) (by decide +kernel) (by decide +kernel) ?_ | refine RB_done (by decide +kernel) ?_ | refine RB_keep 6 _ (by rfl) (by decide +kernel) (by first | (simp (disch := first | omega | decide) only [go_sem, List.getElem?_nil]; done) | fail) ?_) <;> try simp (maxSteps := 1000000) (disch := first | omega | rfl | decide | (simp only [List.length_cons, List.length_nil, List.length_append, Bs_length, Is_length, Vs_length, Bl_length, Il_length] <;> omega)) only [go_sem, Nat.reduceAdd, Int.reduceAdd, Int.reduceSub, Int.reduceMul, Bool.not_true, Bool.not_false, yieldA_at 2 25, yieldA_at 2 114])))) | refine WA_seq ?_ | refine WA_block ?_ | (refine WA_skip ?_; try simp only [go_sem]) | (refine WA_ret ?_; try simp only [go_sem]) | refine WA_ct rfl ?_ | refine WA_cf rfl ?_))
          · (refine Drop_slots (by first | exact Nat.le_refl _ | simp) ?_; focus ((try simp only [JL_same, JL_J, JL_nil, Int.reduceAdd, Nat.sub_sub, Int.natCast_add, Int.natCast_one, Int.natCast_zero, Int.cast_ofNat_Int, Nat.add_zero, Bool.false_eq_true, if_false, if_true]); (try exact JL_refl _)))
          · (refine Drop_gc [0, 1, 2, 4, 3] (by first | exact Nat.le_refl _ | first | assumption | omega | (simp only [List.length_append, List.length_cons, List.length_nil, List.length_replicate]; omega)) (by assumption) (by decide) ?_ ?_; (focus (repeat (first | exact trivial | (refine And.intro ⟨_, rfl, ?_⟩ ?_; (focus first | (refine Fit_plain ?_; simp only [go_sem, List.all_append, List.all_cons, List.all_nil, Bool.and_self]; done) | exact Fit_nil rfl | exact Fit_dead | (refine Fit_eq ?_ ?_; (focus simp only [go_sem, List.all_append, List.all_cons, List.all_nil, Bool.and_self]); (focus (first | rfl | (simp only [Int.natCast_add, Int.natCast_one, Int.natCast_zero, Int.cast_ofNat_Int, Nat.add_zero]; done) | (simp only [Int.natCast_add, Int.natCast_one, Int.natCast_zero, Int.cast_ofNat_Int, Nat.add_zero]; rfl))))))))); (focus (repeat (first | exact JR_nil | refine JR_J ?_ | (refine JR_plain ?_ ?_; (focus first | rfl | (refine plain_agg ?_; simp only [go_sem, List.all_append, List.all_cons, List.all_nil, Bool.and_self]; done))) | ((first | refine JR_pt ?_ ?_ ?_ | refine JR_sl ?_ ?_ ?_); (focus first | (rw [rhoF_new0]; rfl) | (rw [rhoF_new]; rfl) | (rw [rhoF_old]; first | assumption | omega)); (focus first | assumption | omega | (simp only [List.length_append, List.length_cons, List.length_nil, List.length_replicate]; omega))) | (refine JR_plain' ?_ ?_ ?_; (focus first | rfl | (refine plain_agg ?_; simp only [go_sem, List.all_append, List.all_cons, List.all_nil, Bool.and_self]; done)); (focus (first | rfl | (simp only [Int.natCast_add, Int.natCast_one, Int.natCast_zero, Int.cast_ofNat_Int, Nat.add_zero]; done) | (simp only [Int.natCast_add, Int.natCast_one, Int.natCast_zero, Int.cast_ofNat_Int, Nat.add_zero]; rfl)))) | (refine JR_sl' ?_ ?_ ?_ ?_; (focus first | (rw [rhoF_new0]; rfl) | (rw [rhoF_new]; rfl) | (rw [rhoF_old]; first | assumption | omega)); (focus first | assumption | omega | (simp only [List.length_append, List.length_cons, List.length_nil, List.length_replicate]; omega)); (focus first | rfl | omega | (first | rfl | (simp only [Int.natCast_add, Int.natCast_one, Int.natCast_zero, Int.cast_ofNat_Int, Nat.add_zero]; done) | (simp only [Int.natCast_add, Int.natCast_one, Int.natCast_zero, Int.cast_ofNat_Int, Nat.add_zero]; rfl))))))))
        · have hpe1 : swp A i kk = over (over A (i * 4) 4 (fun t => A (kk * 4 + t))) (kk * 4) 4 (fun t => A (i * 4 + t)) := rfl
          have hpe2 : swp C i kk = over (over C (i * 4) 4 (fun t => C (kk * 4 + t))) (kk * 4) 4 (fun t => C (i * 4 + t)) := rfl
          (repeat (first | ((first | (refine And.intro ?_ ?_; focus (first | exact plain_agg (by simp only [go_sem]) | exact plain_two (by first | exact plain_agg (by simp only [go_sem]) | rfl) rfl | rfl)) | ((first | with_reducible apply callB_i | with_reducible apply callK_intro | with_reducible apply callQ_i); (focus (first | assumption | ((first | with_reducible apply tmS_ac h0 h1 | with_reducible apply invS_ac h0 h1) <;> (first | assumption | rfl | (simp (disch := omega) only [go_sem]; first | done | rfl) | omega | decide | (simp; done))))); (try (focus (refine WP.mk ?_ ?_; (focus ((repeat (first | exact trivial | (refine And.intro ?_ ?_; (focus first | exact plainV_wf rfl | (refine plainV_wf (plain_agg ?_); simp only [go_sem]; done) | (simp only [wfV, wf1, wfC, List.length_append, List.length_cons, List.length_nil]; omega))))))); (focus (first | rfl | (refine plain_agg ?_; simp only [go_sem]; done) | (refine plain_two ?_ ?_ <;> first | rfl | (refine plain_agg ?_; simp only [go_sem]; done)))))))) | refine WA_seq (WA_region ?_) | refine WA_region ?_ | refine WA_exit ?_); try simp (maxSteps := 1000000) (disch := first | omega | rfl | decide | (simp only [List.length_cons, List.length_nil, List.length_append, Bs_length, Is_length, Vs_length, Bl_length, Il_length] <;> omega)) only [go_sem, Nat.reduceAdd, Int.reduceAdd, Int.reduceSub, Int.reduceMul, Bool.not_true, Bool.not_false, ← hpe1, ← hpe2, yieldA_at 2 25, yieldA_at 2 114]) | refine WA_seq ?_ | refine WA_block ?_ | (refine WA_skip ?_; try simp only [go_sem]) | (refine WA_ret ?_; try simp only [go_sem]) | refine WA_ct rfl ?_ | refine WA_cf rfl ?_))
          clear hpe1 hpe2
          generalize swp A i kk = A1
          generalize swp C i kk = C1
          generalize hv : inv m (A1 (kk * 4 + kk)) = v
          refine WA_forP (fun k => [(13, .int .i64 k), (75, J), (76, J), (77, J), (78, J), (79, J), (80, J), (81, J), (82, J), (83, J), (84, J), (85, J), (86, J), (87, J), (88, J), (89, J), (90, J), (91, J), (92, J), (93, J), (94, J), (95, J), (96, J), (97, J), (98, J), (99, J), (100, J), (101, J), (102, J)]) (fun k => [(0, ⟨Bs 16 (scl m A1 kk v k), true⟩), (2, ⟨Bs 16 (scl m C1 kk v k), true⟩)]) (4) ?_ ?_ ?_ <;> (try simp only [patT_cons, patT_nil, patL_cons, patL_nil, list_set_zero, list_set_succ, blk_set_zero, blk_set_succ])
          · rw [scl_zero, scl_zero]
            (refine Drop_slots (by first | exact Nat.le_refl _ | simp) ?_; focus ((try simp only [JL_same, JL_J, JL_nil, Int.reduceAdd, Nat.sub_sub, Int.natCast_add, Int.natCast_one, Int.natCast_zero, Int.cast_ofNat_Int, Nat.add_zero, Bool.false_eq_true, if_false, if_true]); (try exact JL_refl _)))
          · intro j hj
            (repeat (first | ((first | (refine And.intro ?_ ?_; focus (first | exact plain_agg (by simp only [go_sem]) | exact plain_two (by first | exact plain_agg (by simp only [go_sem]) | rfl) rfl | rfl)) | ((first | with_reducible apply callB_i | with_reducible apply callK_intro | with_reducible apply callQ_i); (focus (first | assumption | (with_reducible apply tmS_ac h0 h1 <;> (first | assumption | rfl | (simp (disch := omega) only [go_sem]; first | done | rfl) | omega | decide | (simp; done))))); (try (focus (refine WP.mk ?_ ?_; (focus ((repeat (first | exact trivial | (refine And.intro ?_ ?_; (focus first | exact plainV_wf rfl | (refine plainV_wf (plain_agg ?_); simp only [go_sem]; done) | (simp only [wfV, wf1, wfC, List.length_append, List.length_cons, List.length_nil]; omega))))))); (focus (first | rfl | (refine plain_agg ?_; simp only [go_sem]; done) | (refine plain_two ?_ ?_ <;> first | rfl | (refine plain_agg ?_; simp only [go_sem]; done)))))))) | refine WA_seq (WA_region ?_) | refine WA_region ?_ | refine WA_exit ?_); try simp (maxSteps := 1000000) (disch := first | omega | rfl | decide | (simp only [List.length_cons, List.length_nil, List.length_append, Bs_length, Is_length, Vs_length, Bl_length, Il_length] <;> omega)) only [go_sem, Nat.reduceAdd, Int.reduceAdd, Int.reduceSub, Int.reduceMul, Bool.not_true, Bool.not_false, scl_at, scl_set, yieldA_at 2 25, yieldA_at 2 114]) | (refine (WA_rb (id := 20) [12] (SubM.refl _) mixedOk ?_); simp only [List.size_toArray, List.length_cons, List.length_nil]; (repeat (first | ((first | (refine And.intro ?_ ?_; focus (first | exact plain_agg (by simp only [go_sem]) | exact plain_two (by first | exact plain_agg (by simp only [go_sem]) | rfl) rfl | rfl)) | ((first | with_reducible apply callB_i | with_reducible apply callK_intro | with_reducible apply callQ_i); (focus (first | assumption | (with_reducible apply tmS_ac h0 h1 <;> (first | assumption | rfl | (simp (disch := omega) only [go_sem]; first | done | rfl) | omega | decide | (simp; done))))); (try (focus (refine WP.mk ?_ ?_; (focus ((repeat (first | exact trivial | (refine And.intro ?_ ?_; (focus first | exact plainV_wf rfl | (refine plainV_wf (plain_agg ?_); simp only [go_sem]; done) | (simp only [wfV, wf1, wfC, List.length_append, List.length_cons, List.length_nil]; omega))))))); (focus (first | rfl | (refine plain_agg ?_; simp only [go_sem]; done) | (refine plain_two ?_ ?_ <;> first | rfl | (refine plain_agg ?_; simp only [go_sem]; done)))))))) | refine RB_take false [0, 1, 2, 3, 4, 5, 6, 8, 10] 4 (by rfl) (by kernel_rfl) (by decide) (by decide +kernel) ?_ | refine RB_take true [7, 9] 2 (by rfl) (by kernel_rfl) (by decide) (by decide +kernel) ?_ | refine RB_take false [11] 1 (by rfl) (by kernel_rfl) (by decide) (by decide +kernel) ?_ | refine RB_exec 12 _ (by rfl) (by decide +kernel) (by decide +kernel) ?_ | refine RB_done (by decide +kernel) ?_); try simp (maxSteps := 1000000) (disch := first | omega | rfl | decide | (simp only [List.length_cons, List.length_nil, List.length_append, Bs_length, Is_length, Vs_length, Bl_length, Il_length] <;> omega)) only [go_sem, Nat.reduceAdd, Int.reduceAdd, Int.reduceSub, Int.reduceMul, Bool.not_true, Bool.not_false, scl_at, scl_set, yieldA_at 2 25, yieldA_at 2 114])))) | (refine (WA_rb (id := 21) [12] (SubM.refl _) mixedOk ?_); simp only [List.size_toArray, List.length_cons, List.length_nil]; (repeat (first | ((first | (refine And.intro ?_ ?_; focus (first | exact plain_agg (by simp only [go_sem]) | exact plain_two (by first | exact plain_agg (by simp only [go_sem]) | rfl) rfl | rfl)) | ((first | with_reducible apply callB_i | with_reducible apply callK_intro | with_reducible apply callQ_i); (focus (first | assumption | (with_reducible apply tmS_ac h0 h1 <;> (first | assumption | rfl | (simp (disch := omega) only [go_sem]; first | done | rfl) | omega | decide | (simp; done))))); (try (focus (refine WP.mk ?_ ?_; (focus ((repeat (first | exact trivial | (refine And.intro ?_ ?_; (focus first | exact plainV_wf rfl | (refine plainV_wf (plain_agg ?_); simp only [go_sem]; done) | (simp only [wfV, wf1, wfC, List.length_append, List.length_cons, List.length_nil]; omega))))))); (focus (first | rfl | (refine plain_agg ?_; simp only [go_sem]; done) | (refine plain_two ?_ ?_ <;> first | rfl | (refine plain_agg ?_; simp only [go_sem]; done)))))))) | refine RB_take false [0, 1, 2, 3, 4, 5, 6, 8, 10] 4 (by rfl) (by kernel_rfl) (by decide) (by decide +kernel) ?_ | refine RB_take true [7, 9] 2 (by rfl) (by kernel_rfl) (by decide) (by decide +kernel) ?_ | refine RB_take false [11] 1 (by rfl) (by kernel_rfl) (by decide) (by decide +kernel) ?_ | refine RB_exec 12 _ (by rfl) (by decide +kernel) (by decide +kernel) ?_ | refine RB_done (by decide +kernel) ?_); try simp (maxSteps := 1000000) (disch := first | omega | rfl | decide | (simp only [List.length_cons, List.length_nil, List.length_append, Bs_length, Is_length, Vs_length, Bl_length, Il_length] <;> omega)) only [go_sem, Nat.reduceAdd, Int.reduceAdd, Int.reduceSub, Int.reduceMul, Bool.not_true, Bool.not_false, scl_at, scl_set, yieldA_at 2 25, yieldA_at 2 114])))) | refine WA_seq ?_ | refine WA_block ?_ | (refine WA_skip ?_; try simp only [go_sem]) | (refine WA_ret ?_; try simp only [go_sem]) | refine WA_ct rfl ?_ | refine WA_cf rfl ?_))
            (refine Drop_slots (by first | exact Nat.le_refl _ | simp) ?_; focus ((try simp only [JL_same, JL_J, JL_nil, Int.reduceAdd, Nat.sub_sub, Int.natCast_add, Int.natCast_one, Int.natCast_zero, Int.cast_ofNat_Int, Nat.add_zero, Bool.false_eq_true, if_false, if_true]); (try exact JL_refl _)))
          · (repeat (first | ((first | (refine And.intro ?_ ?_; focus (first | exact plain_agg (by simp only [go_sem]) | exact plain_two (by first | exact plain_agg (by simp only [go_sem]) | rfl) rfl | rfl)) | refine WA_seq (WA_region ?_) | refine WA_region ?_ | refine WA_exit ?_); try simp (maxSteps := 1000000) (disch := first | omega | rfl | decide | (simp only [List.length_cons, List.length_nil, List.length_append, Bs_length, Is_length, Vs_length, Bl_length, Il_length] <;> omega)) only [go_sem, Nat.reduceAdd, Int.reduceAdd, Int.reduceSub, Int.reduceMul, Bool.not_true, Bool.not_false, yieldA_at 2 25, yieldA_at 2 114]) | refine WA_seq ?_ | refine WA_block ?_ | (refine WA_skip ?_; try simp only [go_sem]) | (refine WA_ret ?_; try simp only [go_sem]) | refine WA_ct rfl ?_ | refine WA_cf rfl ?_))
            generalize scl m A1 kk v 4 = A2
            generalize scl m C1 kk v 4 = C2
            refine WA_forP (fun k => [(14, .int .i64 k), (15, J), (16, J), (103, J), (104, J), (105, J), (106, J), (107, J), (108, J), (109, J), (110, J), (111, J), (112, J), (113, J), (114, J), (115, J), (116, J), (117, J), (118, J), (119, J), (120, J), (121, J), (122, J), (123, J), (124, J), (125, J), (126, J), (127, J), (128, J), (129, J), (130, J), (131, J), (132, J), (133, J), (134, J), (135, J), (136, J), (137, J), (138, J), (139, J), (140, J), (141, J), (142, J), (143, J), (144, J), (145, J), (146, J), (147, J), (148, J), (149, J), (150, J), (151, J), (152, J), (153, J), (154, J), (155, J), (156, J)]) (fun k => [(0, ⟨Bs 16 (elN m kk A2 C2 k).1, true⟩), (2, ⟨Bs 16 (elN m kk A2 C2 k).2, true⟩)]) (4) ?_ ?_ ?_ <;> (try simp only [patT_cons, patT_nil, patL_cons, patL_nil, list_set_zero, list_set_succ, blk_set_zero, blk_set_succ])
            · (refine Drop_slots (by first | exact Nat.le_refl _ | simp) ?_; focus ((try simp only [JL_same, JL_J, JL_nil, Int.reduceAdd, Nat.sub_sub, Int.natCast_add, Int.natCast_one, Int.natCast_zero, Int.cast_ofNat_Int, Nat.add_zero, Bool.false_eq_true, if_false, if_true]); (try exact JL_refl _)))
            · intro r hr
              by_cases hrk : r = kk
              · subst hrk
                (repeat (first | ((first | (refine And.intro ?_ ?_; focus (first | exact plain_agg (by simp only [go_sem]) | exact plain_two (by first | exact plain_agg (by simp only [go_sem]) | rfl) rfl | rfl)) | refine WA_seq (WA_region ?_) | refine WA_region ?_ | refine WA_exit ?_); try simp (maxSteps := 1000000) (disch := first | omega | rfl | decide | (simp only [List.length_cons, List.length_nil, List.length_append, Bs_length, Is_length, Vs_length, Bl_length, Il_length] <;> omega)) only [go_sem, Nat.reduceAdd, Int.reduceAdd, Int.reduceSub, Int.reduceMul, Bool.not_true, Bool.not_false, yieldA_at 2 25, yieldA_at 2 114]) | refine WA_seq ?_ | refine WA_block ?_ | (refine WA_skip ?_; try simp only [go_sem]) | (refine WA_ret ?_; try simp only [go_sem]) | refine WA_ct rfl ?_ | refine WA_cf rfl ?_))
                refine WA_forP (fun k => [(16, .int .i64 k), (112, J), (113, J), (114, J), (115, J), (116, J), (117, J), (118, J), (119, J), (120, J), (121, J), (122, J), (123, J), (124, J), (125, J), (126, J), (127, J), (128, J), (129, J), (130, J), (131, J), (132, J), (133, J), (134, J), (135, J), (136, J), (137, J), (138, J), (139, J), (140, J), (141, J), (142, J), (143, J), (144, J), (145, J), (146, J), (147, J), (148, J), (149, J), (150, J), (151, J), (152, J), (153, J), (154, J), (155, J), (156, J)]) (fun k => []) (0) ?_ ?_ ?_ <;> (try simp only [patT_cons, patT_nil, patL_cons, patL_nil, list_set_zero, list_set_succ, blk_set_zero, blk_set_succ])
                · (refine Drop_slots (by first | exact Nat.le_refl _ | simp) ?_; focus ((try simp only [JL_same, JL_J, JL_nil, Int.reduceAdd, Nat.sub_sub, Int.natCast_add, Int.natCast_one, Int.natCast_zero, Int.cast_ofNat_Int, Nat.add_zero, Bool.false_eq_true, if_false, if_true]); (try exact JL_refl _)))
                · intro j hj
                  omega
                · (repeat (first | ((first | (refine And.intro ?_ ?_; focus (first | exact plain_agg (by simp only [go_sem]) | exact plain_two (by first | exact plain_agg (by simp only [go_sem]) | rfl) rfl | rfl)) | refine WA_seq (WA_region ?_) | refine WA_region ?_ | refine WA_exit ?_); try simp (maxSteps := 1000000) (disch := first | omega | rfl | decide | (simp only [List.length_cons, List.length_nil, List.length_append, Bs_length, Is_length, Vs_length, Bl_length, Il_length] <;> omega)) only [go_sem, Nat.reduceAdd, Int.reduceAdd, Int.reduceSub, Int.reduceMul, Bool.not_true, Bool.not_false, Nat.reduceLT, Int.reduceLT, decide_true, yieldA_at 2 25, yieldA_at 2 114]) | refine WA_seq ?_ | refine WA_block ?_ | (refine WA_skip ?_; try simp only [go_sem]) | (refine WA_ret ?_; try simp only [go_sem]) | refine WA_ct rfl ?_ | refine WA_cf rfl ?_))
                  rw [elN_same]
                  (refine Drop_slots (by first | exact Nat.le_refl _ | simp) ?_; focus ((try simp only [JL_same, JL_J, JL_nil, Int.reduceAdd, Nat.sub_sub, Int.natCast_add, Int.natCast_one, Int.natCast_zero, Int.cast_ofNat_Int, Nat.add_zero, Bool.false_eq_true, if_false, if_true]); (try exact JL_refl _)))
              · rw [elN_other hrk]
                generalize elN m kk A2 C2 r = p
                obtain ⟨A3, C3⟩ := p
                simp only []
                (repeat (first | ((first | (refine And.intro ?_ ?_; focus (first | exact plain_agg (by simp only [go_sem]) | exact plain_two (by first | exact plain_agg (by simp only [go_sem]) | rfl) rfl | rfl)) | refine WA_seq (WA_region ?_) | refine WA_region ?_ | refine WA_exit ?_); try simp (maxSteps := 1000000) (disch := first | omega | rfl | decide | (simp only [List.length_cons, List.length_nil, List.length_append, Bs_length, Is_length, Vs_length, Bl_length, Il_length] <;> omega)) only [go_sem, Nat.reduceAdd, Int.reduceAdd, Int.reduceSub, Int.reduceMul, Bool.not_true, Bool.not_false, yieldA_at 2 25, yieldA_at 2 114]) | refine WA_seq ?_ | refine WA_block ?_ | (refine WA_skip ?_; try simp only [go_sem]) | (refine WA_ret ?_; try simp only [go_sem]) | refine WA_ct rfl ?_ | refine WA_cf rfl ?_))
                generalize hf : A3 (r * 4 + kk) = f
                refine WA_forP (fun k => [(16, .int .i64 k), (112, J), (113, J), (114, J), (115, J), (116, J), (117, J), (118, J), (119, J), (120, J), (121, J), (122, J), (123, J), (124, J), (125, J), (126, J), (127, J), (128, J), (129, J), (130, J), (131, J), (132, J), (133, J), (134, J), (135, J), (136, J), (137, J), (138, J), (139, J), (140, J), (141, J), (142, J), (143, J), (144, J), (145, J), (146, J), (147, J), (148, J), (149, J), (150, J), (151, J), (152, J), (153, J), (154, J), (155, J), (156, J)]) (fun k => [(0, ⟨Bs 16 (elm m f kk r A3 k), true⟩), (2, ⟨Bs 16 (elm m f kk r C3 k), true⟩)]) (4) ?_ ?_ ?_ <;> (try simp only [patT_cons, patT_nil, patL_cons, patL_nil, list_set_zero, list_set_succ, blk_set_zero, blk_set_succ])
                · rw [elm_zero, elm_zero]
                  (refine Drop_slots (by first | exact Nat.le_refl _ | simp) ?_; focus ((try simp only [JL_same, JL_J, JL_nil, Int.reduceAdd, Nat.sub_sub, Int.natCast_add, Int.natCast_one, Int.natCast_zero, Int.cast_ofNat_Int, Nat.add_zero, Bool.false_eq_true, if_false, if_true]); (try exact JL_refl _)))
                · intro j hj
                  have hkey1 := elm_key (m := m) (f := f) (x := A3) (j := j) hrk hj (by omega)
                  have hkey2 := elm_key (m := m) (f := f) (x := C3) (j := j) hrk hj (by omega)
                  have hdj := decide_eq_true hj
                  have hne : (r != kk) = true := bne_iff_ne.2 hrk
                  (repeat (first | ((first | (refine And.intro ?_ ?_; focus (first | exact plain_agg (by simp only [go_sem]) | exact plain_two (by first | exact plain_agg (by simp only [go_sem]) | rfl) rfl | rfl)) | ((first | with_reducible apply callB_i | with_reducible apply callK_intro | with_reducible apply callQ_i); (focus (first | assumption | (with_reducible apply tmS_ac h0 h1 <;> (first | assumption | rfl | (simp (disch := omega) only [go_sem]; first | done | rfl) | omega | decide | (simp; done))))); (try (focus (refine WP.mk ?_ ?_; (focus ((repeat (first | exact trivial | (refine And.intro ?_ ?_; (focus first | exact plainV_wf rfl | (refine plainV_wf (plain_agg ?_); simp only [go_sem]; done) | (simp only [wfV, wf1, wfC, List.length_append, List.length_cons, List.length_nil]; omega))))))); (focus (first | rfl | (refine plain_agg ?_; simp only [go_sem]; done) | (refine plain_two ?_ ?_ <;> first | rfl | (refine plain_agg ?_; simp only [go_sem]; done)))))))) | refine WA_seq (WA_region ?_) | refine WA_region ?_ | refine WA_exit ?_); try simp (maxSteps := 1000000) (disch := first | omega | rfl | decide | (simp only [List.length_cons, List.length_nil, List.length_append, Bs_length, Is_length, Vs_length, Bl_length, Il_length] <;> omega)) only [go_sem, Nat.reduceAdd, Int.reduceAdd, Int.reduceSub, Int.reduceMul, Bool.not_true, Bool.not_false, elm_at, elm_set, hkey1, hkey2, hdj, hne, yieldA_at 2 25, yieldA_at 2 114]) | (refine (WA_rb (id := 29) [18] (SubM.refl _) mixedOk ?_); simp only [List.size_toArray, List.length_cons, List.length_nil]; (repeat (first | ((first | (refine And.intro ?_ ?_; focus (first | exact plain_agg (by simp only [go_sem]) | exact plain_two (by first | exact plain_agg (by simp only [go_sem]) | rfl) rfl | rfl)) | ((first | with_reducible apply callB_i | with_reducible apply callK_intro | with_reducible apply callQ_i); (focus (first | assumption | (with_reducible apply tmS_ac h0 h1 <;> (first | assumption | rfl | (simp (disch := omega) only [go_sem]; first | done | rfl) | omega | decide | (simp; done))))); (try (focus (refine WP.mk ?_ ?_; (focus ((repeat (first | exact trivial | (refine And.intro ?_ ?_; (focus first | exact plainV_wf rfl | (refine plainV_wf (plain_agg ?_); simp only [go_sem]; done) | (simp only [wfV, wf1, wfC, List.length_append, List.length_cons, List.length_nil]; omega))))))); (focus (first | rfl | (refine plain_agg ?_; simp only [go_sem]; done) | (refine plain_two ?_ ?_ <;> first | rfl | (refine plain_agg ?_; simp only [go_sem]; done)))))))) | refine RB_take false [0, 1, 2, 3, 4, 5, 7, 8, 9, 10, 11, 12, 16] 6 (by rfl) (by kernel_rfl) (by decide) (by decide +kernel) ?_ | refine RB_take true [6, 13, 14] 3 (by rfl) (by kernel_rfl) (by decide) (by decide +kernel) ?_ | refine RB_take false [15, 17] 1 (by rfl) (by kernel_rfl) (by decide) (by decide +kernel) ?_ | refine RB_exec 18 _ (by rfl) (by decide +kernel) (by decide +kernel) ?_ | refine RB_done (by decide +kernel) ?_); try simp (maxSteps := 1000000) (disch := first | omega | rfl | decide | (simp only [List.length_cons, List.length_nil, List.length_append, Bs_length, Is_length, Vs_length, Bl_length, Il_length] <;> omega)) only [go_sem, Nat.reduceAdd, Int.reduceAdd, Int.reduceSub, Int.reduceMul, Bool.not_true, Bool.not_false, elm_at, elm_set, hkey1, hkey2, hdj, hne, yieldA_at 2 25, yieldA_at 2 114])))) | (refine (WA_rb (id := 30) [18] (SubM.refl _) mixedOk ?_); simp only [List.size_toArray, List.length_cons, List.length_nil]; (repeat (first | ((first | (refine And.intro ?_ ?_; focus (first | exact plain_agg (by simp only [go_sem]) | exact plain_two (by first | exact plain_agg (by simp only [go_sem]) | rfl) rfl | rfl)) | ((first | with_reducible apply callB_i | with_reducible apply callK_intro | with_reducible apply callQ_i); (focus (first | assumption | (with_reducible apply tmS_ac h0 h1 <;> (first | assumption | rfl | (simp (disch := omega) only [go_sem]; first | done | rfl) | omega | decide | (simp; done))))); (try (focus (refine WP.mk ?_ ?_; (focus ((repeat (first | exact trivial | (refine And.intro ?_ ?_; (focus first | exact plainV_wf rfl | (refine plainV_wf (plain_agg ?_); simp only [go_sem]; done) | (simp only [wfV, wf1, wfC, List.length_append, List.length_cons, List.length_nil]; omega))))))); (focus (first | rfl | (refine plain_agg ?_; simp only [go_sem]; done) | (refine plain_two ?_ ?_ <;> first | rfl | (refine plain_agg ?_; simp only [go_sem]; done)))))))) | refine RB_take false [0, 1, 2, 3, 4, 5, 7, 8, 9, 10, 11, 12, 16] 6 (by rfl) (by kernel_rfl) (by decide) (by decide +kernel) ?_ | refine RB_take true [6, 13, 14] 3 (by rfl) (by kernel_rfl) (by decide) (by decide +kernel) ?_ | refine RB_take false [15, 17] 1 (by rfl) (by kernel_rfl) (by decide) (by decide +kernel) ?_ | refine RB_exec 18 _ (by rfl) (by decide +kernel) (by decide +kernel) ?_ | refine RB_done (by decide +kernel) ?_); try simp (maxSteps := 1000000) (disch := first | omega | rfl | decide | (simp only [List.length_cons, List.length_nil, List.length_append, Bs_length, Is_length, Vs_length, Bl_length, Il_length] <;> omega)) only [go_sem, Nat.reduceAdd, Int.reduceAdd, Int.reduceSub, Int.reduceMul, Bool.not_true, Bool.not_false, elm_at, elm_set, hkey1, hkey2, hdj, hne, yieldA_at 2 25, yieldA_at 2 114])))) | refine WA_seq ?_ | refine WA_block ?_ | (refine WA_skip ?_; try simp only [go_sem]) | (refine WA_ret ?_; try simp only [go_sem]) | refine WA_ct rfl ?_ | refine WA_cf rfl ?_))
                  (refine Drop_slots (by first | exact Nat.le_refl _ | simp) ?_; focus ((try simp only [JL_same, JL_J, JL_nil, Int.reduceAdd, Nat.sub_sub, Int.natCast_add, Int.natCast_one, Int.natCast_zero, Int.cast_ofNat_Int, Nat.add_zero, Bool.false_eq_true, if_false, if_true]); (try exact JL_refl _)))
                · (repeat (first | ((first | (refine And.intro ?_ ?_; focus (first | exact plain_agg (by simp only [go_sem]) | exact plain_two (by first | exact plain_agg (by simp only [go_sem]) | rfl) rfl | rfl)) | refine WA_seq (WA_region ?_) | refine WA_region ?_ | refine WA_exit ?_); try simp (maxSteps := 1000000) (disch := first | omega | rfl | decide | (simp only [List.length_cons, List.length_nil, List.length_append, Bs_length, Is_length, Vs_length, Bl_length, Il_length] <;> omega)) only [go_sem, Nat.reduceAdd, Int.reduceAdd, Int.reduceSub, Int.reduceMul, Bool.not_true, Bool.not_false, Nat.reduceLT, Int.reduceLT, decide_false, yieldA_at 2 25, yieldA_at 2 114]) | refine WA_seq ?_ | refine WA_block ?_ | (refine WA_skip ?_; try simp only [go_sem]) | (refine WA_ret ?_; try simp only [go_sem]) | refine WA_ct rfl ?_ | refine WA_cf rfl ?_))
                  (refine Drop_slots (by first | exact Nat.le_refl _ | simp) ?_; focus ((try simp only [JL_same, JL_J, JL_nil, Int.reduceAdd, Nat.sub_sub, Int.natCast_add, Int.natCast_one, Int.natCast_zero, Int.cast_ofNat_Int, Nat.add_zero, Bool.false_eq_true, if_false, if_true]); (try exact JL_refl _)))
            · (repeat (first | ((first | (refine And.intro ?_ ?_; focus (first | exact plain_agg (by simp only [go_sem]) | exact plain_two (by first | exact plain_agg (by simp only [go_sem]) | rfl) rfl | rfl)) | refine WA_seq (WA_region ?_) | refine WA_region ?_ | refine WA_exit ?_); try simp (maxSteps := 1000000) (disch := first | omega | rfl | decide | (simp only [List.length_cons, List.length_nil, List.length_append, Bs_length, Is_length, Vs_length, Bl_length, Il_length] <;> omega)) only [go_sem, Nat.reduceAdd, Int.reduceAdd, Int.reduceSub, Int.reduceMul, Bool.not_true, Bool.not_false, yieldA_at 2 25, yieldA_at 2 114]) | refine WA_seq ?_ | refine WA_block ?_ | (refine WA_skip ?_; try simp only [go_sem]) | (refine WA_ret ?_; try simp only [go_sem]) | refine WA_ct rfl ?_ | refine WA_cf rfl ?_))
              refine ⟨hnx, ?_⟩
              (refine Drop_gc [0, 1, 2] (by first | exact Nat.le_refl _ | first | assumption | omega | (simp only [List.length_append, List.length_cons, List.length_nil, List.length_replicate]; omega)) (by assumption) (by decide) ?_ ?_; (focus (repeat (first | exact trivial | (refine And.intro ⟨_, rfl, ?_⟩ ?_; (focus first | (refine Fit_plain ?_; simp only [go_sem, List.all_append, List.all_cons, List.all_nil, Bool.and_self]; done) | exact Fit_nil rfl | exact Fit_dead | (refine Fit_eq ?_ ?_; (focus simp only [go_sem, List.all_append, List.all_cons, List.all_nil, Bool.and_self]); (focus (first | rfl | (simp only [Int.natCast_add, Int.natCast_one, Int.natCast_zero, Int.cast_ofNat_Int, Nat.add_zero]; done) | (simp only [Int.natCast_add, Int.natCast_one, Int.natCast_zero, Int.cast_ofNat_Int, Nat.add_zero]; rfl))))))))); (focus (repeat (first | exact JR_nil | refine JR_J ?_ | (refine JR_plain ?_ ?_; (focus first | rfl | (refine plain_agg ?_; simp only [go_sem, List.all_append, List.all_cons, List.all_nil, Bool.and_self]; done))) | ((first | refine JR_pt ?_ ?_ ?_ | refine JR_sl ?_ ?_ ?_); (focus first | (rw [rhoF_new0]; rfl) | (rw [rhoF_new]; rfl) | (rw [rhoF_old]; first | assumption | omega)); (focus first | assumption | omega | (simp only [List.length_append, List.length_cons, List.length_nil, List.length_replicate]; omega))) | (refine JR_plain' ?_ ?_ ?_; (focus first | rfl | (refine plain_agg ?_; simp only [go_sem, List.all_append, List.all_cons, List.all_nil, Bool.and_self]; done)); (focus (first | rfl | (simp only [Int.natCast_add, Int.natCast_one, Int.natCast_zero, Int.cast_ofNat_Int, Nat.add_zero]; done) | (simp only [Int.natCast_add, Int.natCast_one, Int.natCast_zero, Int.cast_ofNat_Int, Nat.add_zero]; rfl)))) | (refine JR_sl' ?_ ?_ ?_ ?_; (focus first | (rw [rhoF_new0]; rfl) | (rw [rhoF_new]; rfl) | (rw [rhoF_old]; first | assumption | omega)); (focus first | assumption | omega | (simp only [List.length_append, List.length_cons, List.length_nil, List.length_replicate]; omega)); (focus first | rfl | omega | (first | rfl | (simp only [Int.natCast_add, Int.natCast_one, Int.natCast_zero, Int.cast_ofNat_Int, Nat.add_zero]; done) | (simp only [Int.natCast_add, Int.natCast_one, Int.natCast_zero, Int.cast_ofNat_Int, Nat.add_zero]; rfl))))))))
  · intro hJ
    (repeat (first | ((first | (refine And.intro ?_ ?_; focus (first | exact plain_agg (by simp only [go_sem]) | exact plain_two (by first | exact plain_agg (by simp only [go_sem]) | rfl) rfl | rfl)) | refine WA_seq (WA_region ?_) | refine WA_region ?_ | refine WA_exit ?_); try simp (maxSteps := 1000000) (disch := first | omega | rfl | decide | (simp only [List.length_cons, List.length_nil, List.length_append, Bs_length, Is_length, Vs_length, Bl_length, Il_length] <;> omega)) only [go_sem, Nat.reduceAdd, Int.reduceAdd, Int.reduceSub, Int.reduceMul, Bool.not_true, Bool.not_false, yieldA_at 2 25, yieldA_at 2 114]) | (refine (WA_rb (id := 31) [3] (SubM.refl _) mixedOk ?_); simp only [List.size_toArray, List.length_cons, List.length_nil]; (repeat (first | ((first | (refine And.intro ?_ ?_; focus (first | exact plain_agg (by simp only [go_sem]) | exact plain_two (by first | exact plain_agg (by simp only [go_sem]) | rfl) rfl | rfl)) | refine RB_take false [0, 2] 2 (by rfl) (by kernel_rfl) (by decide) (by decide +kernel) ?_ | refine RB_take true [1] 1 (by rfl) (by kernel_rfl) (by decide) (by decide +kernel) ?_ | refine RB_exec 3 _ (by rfl) (by decide +kernel) (by decide +kernel) ?_ | refine RB_done (by decide +kernel) ?_); try simp (maxSteps := 1000000) (disch := first | omega | rfl | decide | (simp only [List.length_cons, List.length_nil, List.length_append, Bs_length, Is_length, Vs_length, Bl_length, Il_length] <;> omega)) only [go_sem, Nat.reduceAdd, Int.reduceAdd, Int.reduceSub, Int.reduceMul, Bool.not_true, Bool.not_false, yieldA_at 2 25, yieldA_at 2 114])))) | refine WA_seq ?_ | refine WA_block ?_ | (refine WA_skip ?_; try simp only [go_sem]) | (refine WA_ret ?_; try simp only [go_sem]) | refine WA_ct rfl ?_ | refine WA_cf rfl ?_))
    ((first | refine ret_none (by first | exact .inr rfl | exact .inl rfl) ?_ | refine ret_same (by first | exact .inr rfl | exact .inl rfl) ?_ (by first | rfl | exact plain_agg (by simp only [go_sem]) | exact plain_two (by first | exact plain_agg (by simp only [go_sem]) | rfl) (by first | exact plain_agg (by simp only [go_sem]) | rfl)) | refine ret_full (by first | exact .inr rfl | exact .inl rfl) (by simp) ?_); simp (maxSteps := 1000000) (disch := first | omega | rfl | decide | (simp only [List.length_cons, List.length_nil, List.length_append, Bs_length, Is_length, Vs_length, Bl_length, Il_length] <;> omega)) only [go_sem, Nat.reduceAdd, Int.reduceAdd, Int.reduceSub, Int.reduceMul, Bool.not_true, Bool.not_false, detF, backF, hJ]; try rfl)

end Go.Proofs.Ytkgiocoiojdgfaa
/- Reducing a matrix: the program. -/
namespace Go.Proofs.Ytkgiocoiojdgfaa
set_option linter.unusedSimpArgs false
set_option linter.unusedVariables false
set_option maxRecDepth 20000
set_option maxHeartbeats 1000000
open Go.Abs

set_option maxHeartbeats 8000000 in
theorem redI_ac {m : Nat} (h0 : 256 ≤ m) (h1 : m < 512) (a : Nat → UInt8) (h : List Blk) : AC Try.prog 176 [.int .i64 m, .agg (Bs 16 a).toArray] h (.tuple #[B (detF m a), .agg (Bs 16 (backF m a)).toArray]) h := by
  (refine AC_begin (fun _ _ => Try.call176 _ _) Try.func176 rfl Try.ntmps176 Try.results176 (fun hwf => ?_); simp only [List.length_cons, List.length_nil, Nat.reduceAdd, Nat.reduceSub, List.replicate, List.cons_append, List.nil_append])
  (repeat (first | ((first | (refine And.intro ?_ ?_; focus (first | exact plain_agg (by simp only [go_sem]) | exact plain_two (by first | exact plain_agg (by simp only [go_sem]) | rfl) rfl | rfl)) | ((first | with_reducible apply callB_i | with_reducible apply callK_intro | with_reducible apply callQ_i); (focus (first | assumption | (with_reducible apply unitI_ac <;> (first | assumption | rfl | (simp (disch := omega) only [go_sem]; first | done | rfl) | omega | decide | (simp; done))))); (try (focus (refine WP.mk ?_ ?_; (focus ((repeat (first | exact trivial | (refine And.intro ?_ ?_; (focus first | exact plainV_wf rfl | (refine plainV_wf (plain_agg ?_); simp only [go_sem]; done) | (simp only [wfV, wf1, wfC, List.length_append, List.length_cons, List.length_nil]; omega))))))); (focus (first | rfl | (refine plain_agg ?_; simp only [go_sem]; done) | (refine plain_two ?_ ?_ <;> first | rfl | (refine plain_agg ?_; simp only [go_sem]; done)))))))) | refine WA_seq (WA_region ?_) | refine WA_region ?_ | refine WA_exit ?_); try simp (maxSteps := 1000000) (disch := first | omega | rfl | decide | (simp only [List.length_cons, List.length_nil, List.length_append, Bs_length, Is_length, Vs_length, Bl_length, Il_length] <;> omega)) only [go_sem, Nat.reduceAdd, Int.reduceAdd, Int.reduceSub, Int.reduceMul, Bool.not_true, Bool.not_false, yieldA_at 2 22, yieldA_at 3 109]) | refine WA_seq ?_ | refine WA_block ?_ | (refine WA_skip ?_; try simp only [go_sem]) | (refine WA_ret ?_; try simp only [go_sem]) | refine WA_ct rfl ?_ | refine WA_cf rfl ?_))
  refine WA_forPJ (fun k => sing m a k = false) (fun k => [(4, J), (7, B (rs m a k).d), (8, J), (9, J), (10, J), (11, J), (12, J), (13, J), (14, J), (16, .int .i64 k), (17, J), (18, J), (19, J), (20, J), (21, J), (22, J), (23, J), (24, J), (25, J), (26, J), (27, J), (28, J), (29, J), (30, J), (31, J), (32, J), (33, J), (34, J), (35, J), (36, J), (37, J), (38, J), (39, J), (40, J), (41, J), (42, J), (43, J), (44, J), (45, J), (46, J), (47, J), (48, J), (49, J), (50, J), (51, J), (52, J), (53, J), (54, J), (55, J), (56, J), (57, J), (58, J), (59, J), (60, J), (61, J), (62, J), (63, J), (64, J), (65, J), (66, J), (67, J), (68, J), (69, J), (70, J), (71, J), (72, J), (73, J), (74, J), (75, J), (76, J), (77, J), (78, J), (79, J), (80, J), (81, J), (82, J), (83, J), (84, J), (85, J), (86, J), (87, J), (88, J), (89, J), (90, J), (91, J), (92, J), (93, J), (94, J), (95, J), (96, J), (97, J), (98, J), (99, J), (100, J), (101, J), (102, J), (103, J), (104, J), (105, J), (106, J), (107, J), (108, J), (109, J), (110, J), (111, J), (112, J), (113, J), (114, J), (115, J), (116, J), (117, J), (118, J), (119, J), (120, J), (121, J), (122, J), (123, J), (124, J), (125, J), (126, J), (127, J), (128, J), (129, J), (130, J), (131, J), (132, J), (133, J), (134, J), (135, J), (136, J), (137, J), (138, J), (139, J), (140, J), (141, J), (142, J), (143, J), (144, J), (145, J), (146, J), (147, J), (148, J), (149, J), (150, J)]) (fun k => [(0, ⟨Bs 16 (rs m a k).a, true⟩), (2, ⟨Bs 16 (rs m a k).b, true⟩)]) (4) ?_ ?_ ?_ ?_ <;> (try simp only [patT_cons, patT_nil, patL_cons, patL_nil, list_set_zero, list_set_succ, blk_set_zero, blk_set_succ])
  · rfl
  · (refine Drop_slots (by first | exact Nat.le_refl _ | simp) ?_; focus ((try simp only [JL_same, JL_J, JL_nil, Int.reduceAdd, Nat.sub_sub, Int.natCast_add, Int.natCast_one, Int.natCast_zero, Int.cast_ofNat_Int, Nat.add_zero, Bool.false_eq_true, if_false, if_true, rs]); (try exact JL_refl _)))
  · intro kk hk hJ
    have hs : rs m a (kk + 1) = stepR m kk (rs m a kk) := rfl
    rw [hs]
    have hmono := sing_mono (m := m) (a := a) hk
    have hnext := sing_next hJ
    clear hs hJ
    generalize rs m a kk = s at *
    obtain ⟨A, C, d⟩ := s
    simp only [] at *
    unfold stepR
    simp only []
    have hpl := piv_le A hk
    have hpe : piv A kk = kk + pivC A kk := rfl
    (repeat (first | ((first | (refine And.intro ?_ ?_; focus (first | exact plain_agg (by simp only [go_sem]) | exact plain_two (by first | exact plain_agg (by simp only [go_sem]) | rfl) rfl | rfl)) | refine WA_seq (WA_region ?_) | refine WA_region ?_ | refine WA_exit ?_); try simp (maxSteps := 1000000) (disch := first | omega | rfl | decide | (simp only [List.length_cons, List.length_nil, List.length_append, Bs_length, Is_length, Vs_length, Bl_length, Il_length] <;> omega)) only [go_sem, Nat.reduceAdd, Int.reduceAdd, Int.reduceSub, Int.reduceMul, Bool.not_true, Bool.not_false, yieldA_at 2 22, yieldA_at 3 109]) | refine WA_seq ?_ | refine WA_block ?_ | (refine WA_skip ?_; try simp only [go_sem]) | (refine WA_ret ?_; try simp only [go_sem]) | refine WA_ct rfl ?_ | refine WA_cf rfl ?_))
    refine WA_forP (fun k => [(9, .int .i64 ((kk + k : Nat))), (20, J), (21, J), (22, J), (23, J), (24, J), (25, J), (26, J), (27, J), (28, J), (29, J), (30, J), (31, J)]) (fun k => []) (pivC A kk) ?_ ?_ ?_ <;> (try simp only [patT_cons, patT_nil, patL_cons, patL_nil, list_set_zero, list_set_succ, blk_set_zero, blk_set_succ])
    · (refine Drop_slots (by first | exact Nat.le_refl _ | simp) ?_; focus ((try simp only [JL_same, JL_J, JL_nil, Int.reduceAdd, Nat.sub_sub, Int.natCast_add, Int.natCast_one, Int.natCast_zero, Int.cast_ofNat_Int, Nat.add_zero, Bool.false_eq_true, if_false, if_true]); (try exact JL_refl _)))
    · intro r hr
      have hg := piv_go hr
      have hg2 := hg.2
      have hd := decide_eq_true hg.1
      (repeat (first | ((first | (refine And.intro ?_ ?_; focus (first | exact plain_agg (by simp only [go_sem]) | exact plain_two (by first | exact plain_agg (by simp only [go_sem]) | rfl) rfl | rfl)) | refine WA_seq (WA_region ?_) | refine WA_region ?_ | refine WA_exit ?_); try simp (maxSteps := 1000000) (disch := first | omega | rfl | decide | (simp only [List.length_cons, List.length_nil, List.length_append, Bs_length, Is_length, Vs_length, Bl_length, Il_length] <;> omega)) only [go_sem, Nat.reduceAdd, Int.reduceAdd, Int.reduceSub, Int.reduceMul, Bool.not_true, Bool.not_false, hg2, hd, yieldA_at 2 22, yieldA_at 3 109]) | refine WA_seq ?_ | refine WA_block ?_ | (refine WA_skip ?_; try simp only [go_sem]) | (refine WA_ret ?_; try simp only [go_sem]) | refine WA_ct rfl ?_ | refine WA_cf rfl ?_))
      (refine Drop_slots (by first | exact Nat.le_refl _ | simp) ?_; focus ((try simp only [JL_same, JL_J, JL_nil, Int.reduceAdd, Nat.sub_sub, Int.natCast_add, Int.natCast_one, Int.natCast_zero, Int.cast_ofNat_Int, Nat.add_zero, Bool.false_eq_true, if_false, if_true, Nat.add_assoc]); (try exact JL_refl _)))
    · by_cases h4 : piv A kk = 4
      · have h4' : kk + pivC A kk = 4 := h4
        have hd : decide (kk + pivC A kk < 4) = false := decide_eq_false (by omega)
        (repeat (first | ((first | (refine And.intro ?_ ?_; focus (first | exact plain_agg (by simp only [go_sem]) | exact plain_two (by first | exact plain_agg (by simp only [go_sem]) | rfl) rfl | rfl)) | refine WA_seq (WA_region ?_) | refine WA_region ?_ | refine WA_exit ?_); try simp (maxSteps := 1000000) (disch := first | omega | rfl | decide | (simp only [List.length_cons, List.length_nil, List.length_append, Bs_length, Is_length, Vs_length, Bl_length, Il_length] <;> omega)) only [go_sem, Nat.reduceAdd, Int.reduceAdd, Int.reduceSub, Int.reduceMul, Bool.not_true, Bool.not_false, hd, yieldA_at 2 22, yieldA_at 3 109]) | refine WA_seq ?_ | refine WA_block ?_ | (refine WA_skip ?_; try simp only [go_sem]) | (refine WA_ret ?_; try simp only [go_sem]) | refine WA_ct rfl ?_ | refine WA_cf rfl ?_))
        ((first | refine ret_none (by first | exact .inr rfl | exact .inl rfl) ?_ | refine ret_same (by first | exact .inr rfl | exact .inl rfl) ?_ (by first | rfl | exact plain_agg (by simp only [go_sem]) | exact plain_two (by first | exact plain_agg (by simp only [go_sem]) | rfl) (by first | exact plain_agg (by simp only [go_sem]) | rfl)) | refine ret_full (by first | exact .inr rfl | exact .inl rfl) (by simp) ?_); simp (maxSteps := 1000000) (disch := first | omega | rfl | decide | (simp only [List.length_cons, List.length_nil, List.length_append, Bs_length, Is_length, Vs_length, Bl_length, Il_length] <;> omega)) only [go_sem, Nat.reduceAdd, Int.reduceAdd, Int.reduceSub, Int.reduceMul, Bool.not_true, Bool.not_false, detF, backF, hmono h4, zeroF]; try rfl)
      · have hpf := piv_end (a := A) hk (by omega)
        have hnx := hnext h4
        clear hmono hnext
        rw [← hpe]
        have hi4 : piv A kk < 4 := by omega
        clear hpl hpe h4
        generalize piv A kk = i at *
        have hd := decide_eq_true hi4
        have hpe1 : swp A i kk = over (over A (i * 4) 4 (fun t => A (kk * 4 + t))) (kk * 4) 4 (fun t => A (i * 4 + t)) := rfl
        have hpe2 : swp C i kk = over (over C (i * 4) 4 (fun t => C (kk * 4 + t))) (kk * 4) 4 (fun t => C (i * 4 + t)) := rfl
        (repeat (first | ((first | (refine And.intro ?_ ?_; focus (first | exact plain_agg (by simp only [go_sem]) | exact plain_two (by first | exact plain_agg (by simp only [go_sem]) | rfl) rfl | rfl)) | ((first | with_reducible apply callB_i | with_reducible apply callK_intro | with_reducible apply callQ_i); (focus (first | assumption | ((first | with_reducible apply tmI_ac h0 h1 | with_reducible apply invI_ac h0 h1) <;> (first | assumption | rfl | (simp (disch := omega) only [go_sem]; first | done | rfl) | omega | decide | (simp; done))))); (try (focus (refine WP.mk ?_ ?_; (focus ((repeat (first | exact trivial | (refine And.intro ?_ ?_; (focus first | exact plainV_wf rfl | (refine plainV_wf (plain_agg ?_); simp only [go_sem]; done) | (simp only [wfV, wf1, wfC, List.length_append, List.length_cons, List.length_nil]; omega))))))); (focus (first | rfl | (refine plain_agg ?_; simp only [go_sem]; done) | (refine plain_two ?_ ?_ <;> first | rfl | (refine plain_agg ?_; simp only [go_sem]; done)))))))) | refine WA_seq (WA_region ?_) | refine WA_region ?_ | refine WA_exit ?_); try simp (maxSteps := 1000000) (disch := first | omega | rfl | decide | (simp only [List.length_cons, List.length_nil, List.length_append, Bs_length, Is_length, Vs_length, Bl_length, Il_length] <;> omega)) only [go_sem, Nat.reduceAdd, Int.reduceAdd, Int.reduceSub, Int.reduceMul, Bool.not_true, Bool.not_false, hpf, hd, ← hpe1, ← hpe2, yieldA_at 2 22, yieldA_at 3 109]) | (refine (WA_rb (id := 10) [9, 11] (SubM.refl _) mixedOk ?_); simp only [List.size_toArray, List.length_cons, List.length_nil]; (repeat (first | ((first | (refine And.intro ?_ ?_; focus (first | exact plain_agg (by simp only [go_sem]) | exact plain_two (by first | exact plain_agg (by simp only [go_sem]) | rfl) rfl | rfl)) | refine RB_take false [0, 1, 2, 3, 5, 6] 6 (by rfl) (by kernel_rfl) (by decide) (by decide +kernel) ?_ | refine RB_take true [4, 7] 4 (by rfl) (by kernel_rfl) (by decide) (by decide +kernel) ?_ | refine RB_take false [8] 3 (by rfl) (by kernel_rfl) (by decide) (by decide +kernel) ?_ | refine RB_exec 9 _ (by rfl) (by decide +kernel) (by decide +kernel) ?_ | refine RB_take false [10] 1 (by rfl) (by kernel_rfl) (by decide) (by decide +kernel) ?_ | refine RB_exec 11 _ (by rfl) (by decide +kernel) (by decide +kernel) ?_ | refine RB_done (by decide +kernel) ?_); try simp (maxSteps := 1000000) (disch := first | omega | rfl | decide | (simp only [List.length_cons, List.length_nil, List.length_append, Bs_length, Is_length, Vs_length, Bl_length, Il_length] <;> omega)) only [go_sem, Nat.reduceAdd, Int.reduceAdd, Int.reduceSub, Int.reduceMul, Bool.not_true, Bool.not_false, hpf, hd, ← hpe1, ← hpe2, yieldA_at 2 22, yieldA_at 3 109])))) | (refine (WA_rb (id := 11) [9, 11] (SubM.refl _) mixedOk ?_); simp only [List.size_toArray, List.length_cons, List.length_nil]; (repeat (first | ((first | (refine And.intro ?_ ?_; focus (first | exact plain_agg (by simp only [go_sem]) | exact plain_two (by first | exact plain_agg (by simp only [go_sem]) | rfl) rfl | rfl)) | refine RB_take false [0, 1, 2, 3, 5, 6] 6 (by rfl) (by kernel_rfl) (by decide) (by decide +kernel) ?_ | refine RB_take true [4, 7] 4 (by rfl) (by kernel_rfl) (by decide) (by decide +kernel) ?_ | refine RB_take false [8] 3 (by rfl) (by kernel_rfl) (by decide) (by decide +kernel) ?_ | refine RB_exec 9 _ (by rfl) (by decide +kernel) (by decide +kernel) ?_ | refine RB_take false [10] 1 (by rfl) (by kernel_rfl) (by decide) (by decide +kernel) ?_ | refine RB_exec 11 _ (by rfl) (by decide +kernel) (by decide +kernel) ?_ | refine RB_done (by decide +kernel) ?_); try simp (maxSteps := 1000000) (disch := first | omega | rfl | decide | (simp only [List.length_cons, List.length_nil, List.length_append, Bs_length, Is_length, Vs_length, Bl_length, Il_length] <;> omega)) only [go_sem, Nat.reduceAdd, Int.reduceAdd, Int.reduceSub, Int.reduceMul, Bool.not_true, Bool.not_false, hpf, hd, ← hpe1, ← hpe2, yieldA_at 2 22, yieldA_at 3 109])))) | refine WA_seq ?_ | refine WA_block ?_ | (refine WA_skip ?_; try simp only [go_sem]) | (refine WA_ret ?_; try simp only [go_sem]) | refine WA_ct rfl ?_ | refine WA_cf rfl ?_))
        clear hpe1 hpe2
        generalize swp A i kk = A1
        generalize swp C i kk = C1
        generalize hv : inv m (A1 (kk * 4 + kk)) = v
        refine WA_forP (fun k => [(11, J), (70, .int .i64 k), (71, J), (72, J), (73, J), (74, J), (75, J), (76, J), (77, J), (78, J), (79, J), (80, J), (81, J), (82, J), (83, J), (84, J), (85, J), (86, J), (87, J), (88, J), (89, J), (90, J), (91, J), (92, J), (93, J), (94, J), (95, J), (96, J), (97, J)]) (fun k => [(0, ⟨Bs 16 (scl m A1 kk v k), true⟩), (2, ⟨Bs 16 (scl m C1 kk v k), true⟩)]) (4) ?_ ?_ ?_ <;> (try simp only [patT_cons, patT_nil, patL_cons, patL_nil, list_set_zero, list_set_succ, blk_set_zero, blk_set_succ])
        · rw [scl_zero, scl_zero]
          (refine Drop_slots (by first | exact Nat.le_refl _ | simp) ?_; focus ((try simp only [JL_same, JL_J, JL_nil, Int.reduceAdd, Nat.sub_sub, Int.natCast_add, Int.natCast_one, Int.natCast_zero, Int.cast_ofNat_Int, Nat.add_zero, Bool.false_eq_true, if_false, if_true]); (try exact JL_refl _)))
        · intro j hj
          (repeat (first | ((first | (refine And.intro ?_ ?_; focus (first | exact plain_agg (by simp only [go_sem]) | exact plain_two (by first | exact plain_agg (by simp only [go_sem]) | rfl) rfl | rfl)) | ((first | with_reducible apply callB_i | with_reducible apply callK_intro | with_reducible apply callQ_i); (focus (first | assumption | (with_reducible apply tmI_ac h0 h1 <;> (first | assumption | rfl | (simp (disch := omega) only [go_sem]; first | done | rfl) | omega | decide | (simp; done))))); (try (focus (refine WP.mk ?_ ?_; (focus ((repeat (first | exact trivial | (refine And.intro ?_ ?_; (focus first | exact plainV_wf rfl | (refine plainV_wf (plain_agg ?_); simp only [go_sem]; done) | (simp only [wfV, wf1, wfC, List.length_append, List.length_cons, List.length_nil]; omega))))))); (focus (first | rfl | (refine plain_agg ?_; simp only [go_sem]; done) | (refine plain_two ?_ ?_ <;> first | rfl | (refine plain_agg ?_; simp only [go_sem]; done)))))))) | refine WA_seq (WA_region ?_) | refine WA_region ?_ | refine WA_exit ?_); try simp (maxSteps := 1000000) (disch := first | omega | rfl | decide | (simp only [List.length_cons, List.length_nil, List.length_append, Bs_length, Is_length, Vs_length, Bl_length, Il_length] <;> omega)) only [go_sem, Nat.reduceAdd, Int.reduceAdd, Int.reduceSub, Int.reduceMul, Bool.not_true, Bool.not_false, scl_at, scl_set, yieldA_at 2 22, yieldA_at 3 109]) | (refine (WA_rb (id := 17) [22, 25] (SubM.refl _) mixedOk ?_); simp only [List.size_toArray, List.length_cons, List.length_nil]; (repeat (first | ((first | (refine And.intro ?_ ?_; focus (first | exact plain_agg (by simp only [go_sem]) | exact plain_two (by first | exact plain_agg (by simp only [go_sem]) | rfl) rfl | rfl)) | ((first | with_reducible apply callB_i | with_reducible apply callK_intro | with_reducible apply callQ_i); (focus (first | assumption | (with_reducible apply tmI_ac h0 h1 <;> (first | assumption | rfl | (simp (disch := omega) only [go_sem]; first | done | rfl) | omega | decide | (simp; done))))); (try (focus (refine WP.mk ?_ ?_; (focus ((repeat (first | exact trivial | (refine And.intro ?_ ?_; (focus first | exact plainV_wf rfl | (refine plainV_wf (plain_agg ?_); simp only [go_sem]; done) | (simp only [wfV, wf1, wfC, List.length_append, List.length_cons, List.length_nil]; omega))))))); (focus (first | rfl | (refine plain_agg ?_; simp only [go_sem]; done) | (refine plain_two ?_ ?_ <;> first | rfl | (refine plain_agg ?_; simp only [go_sem]; done)))))))) | refine RB_take false [0, 1, 2, 3, 4, 5, 6, 7, 8, 10, 12, 13, 14, 15, 16, 18, 20, 23] 8 (by rfl) (by kernel_rfl) (by decide) (by decide +kernel) ?_ | refine RB_take true [9, 11, 17, 19] 4 (by rfl) (by kernel_rfl) (by decide) (by decide +kernel) ?_ | refine RB_take false [21] 3 (by rfl) (by kernel_rfl) (by decide) (by decide +kernel) ?_ | refine RB_exec 22 _ (by rfl) (by decide +kernel) (by decide +kernel) ?_ | refine RB_take false [24] 1 (by rfl) (by kernel_rfl) (by decide) (by decide +kernel) ?_ | refine RB_exec 25 _ (by rfl) (by decide +kernel) (by decide +kernel) ?_ | refine RB_done (by decide +kernel) ?_); try simp (maxSteps := 1000000) (disch := first | omega | rfl | decide | (simp only [List.length_cons, List.length_nil, List.length_append, Bs_length, Is_length, Vs_length, Bl_length, Il_length] <;> omega)) only [go_sem, Nat.reduceAdd, Int.reduceAdd, Int.reduceSub, Int.reduceMul, Bool.not_true, Bool.not_false, scl_at, scl_set, yieldA_at 2 22, yieldA_at 3 109])))) | refine WA_seq ?_ | refine WA_block ?_ | (refine WA_skip ?_; try simp only [go_sem]) | (refine WA_ret ?_; try simp only [go_sem]) | refine WA_ct rfl ?_ | refine WA_cf rfl ?_))
          (refine Drop_slots (by first | exact Nat.le_refl _ | simp) ?_; focus ((try simp only [JL_same, JL_J, JL_nil, Int.reduceAdd, Nat.sub_sub, Int.natCast_add, Int.natCast_one, Int.natCast_zero, Int.cast_ofNat_Int, Nat.add_zero, Bool.false_eq_true, if_false, if_true]); (try exact JL_refl _)))
        · (repeat (first | ((first | (refine And.intro ?_ ?_; focus (first | exact plain_agg (by simp only [go_sem]) | exact plain_two (by first | exact plain_agg (by simp only [go_sem]) | rfl) rfl | rfl)) | refine WA_seq (WA_region ?_) | refine WA_region ?_ | refine WA_exit ?_); try simp (maxSteps := 1000000) (disch := first | omega | rfl | decide | (simp only [List.length_cons, List.length_nil, List.length_append, Bs_length, Is_length, Vs_length, Bl_length, Il_length] <;> omega)) only [go_sem, Nat.reduceAdd, Int.reduceAdd, Int.reduceSub, Int.reduceMul, Bool.not_true, Bool.not_false, yieldA_at 2 22, yieldA_at 3 109]) | refine WA_seq ?_ | refine WA_block ?_ | (refine WA_skip ?_; try simp only [go_sem]) | (refine WA_ret ?_; try simp only [go_sem]) | refine WA_ct rfl ?_ | refine WA_cf rfl ?_))
          generalize scl m A1 kk v 4 = A2
          generalize scl m C1 kk v 4 = C2
          refine WA_forP (fun k => [(12, J), (13, J), (14, J), (98, .int .i64 k), (99, J), (100, J), (101, J), (102, J), (103, J), (104, J), (105, J), (106, J), (107, J), (108, J), (109, J), (110, J), (111, J), (112, J), (113, J), (114, J), (115, J), (116, J), (117, J), (118, J), (119, J), (120, J), (121, J), (122, J), (123, J), (124, J), (125, J), (126, J), (127, J), (128, J), (129, J), (130, J), (131, J), (132, J), (133, J), (134, J), (135, J), (136, J), (137, J), (138, J), (139, J), (140, J), (141, J), (142, J), (143, J), (144, J), (145, J), (146, J), (147, J), (148, J), (149, J)]) (fun k => [(0, ⟨Bs 16 (elN m kk A2 C2 k).1, true⟩), (2, ⟨Bs 16 (elN m kk A2 C2 k).2, true⟩)]) (4) ?_ ?_ ?_ <;> (try simp only [patT_cons, patT_nil, patL_cons, patL_nil, list_set_zero, list_set_succ, blk_set_zero, blk_set_succ])
          · (refine Drop_slots (by first | exact Nat.le_refl _ | simp) ?_; focus ((try simp only [JL_same, JL_J, JL_nil, Int.reduceAdd, Nat.sub_sub, Int.natCast_add, Int.natCast_one, Int.natCast_zero, Int.cast_ofNat_Int, Nat.add_zero, Bool.false_eq_true, if_false, if_true]); (try exact JL_refl _)))
          · intro r hr
            by_cases hrk : r = kk
            · subst hrk
              have hne : (r != r) = false := bne_self_eq_false r
              (repeat (first | ((first | (refine And.intro ?_ ?_; focus (first | exact plain_agg (by simp only [go_sem]) | exact plain_two (by first | exact plain_agg (by simp only [go_sem]) | rfl) rfl | rfl)) | refine WA_seq (WA_region ?_) | refine WA_region ?_ | refine WA_exit ?_); try simp (maxSteps := 1000000) (disch := first | omega | rfl | decide | (simp only [List.length_cons, List.length_nil, List.length_append, Bs_length, Is_length, Vs_length, Bl_length, Il_length] <;> omega)) only [go_sem, Nat.reduceAdd, Int.reduceAdd, Int.reduceSub, Int.reduceMul, Bool.not_true, Bool.not_false, hne, yieldA_at 2 22, yieldA_at 3 109]) | refine WA_seq ?_ | refine WA_block ?_ | (refine WA_skip ?_; try simp only [go_sem]) | (refine WA_ret ?_; try simp only [go_sem]) | refine WA_ct rfl ?_ | refine WA_cf rfl ?_))
              rw [elN_same]
              (refine Drop_slots (by first | exact Nat.le_refl _ | simp) ?_; focus ((try simp only [JL_same, JL_J, JL_nil, Int.reduceAdd, Nat.sub_sub, Int.natCast_add, Int.natCast_one, Int.natCast_zero, Int.cast_ofNat_Int, Nat.add_zero, Bool.false_eq_true, if_false, if_true]); (try exact JL_refl _)))
            · have hne : (r != kk) = true := bne_iff_ne.2 hrk
              cases hz : (elN m kk A2 C2 r).1 (r * 4 + kk) != 0
              · (repeat (first | ((first | (refine And.intro ?_ ?_; focus (first | exact plain_agg (by simp only [go_sem]) | exact plain_two (by first | exact plain_agg (by simp only [go_sem]) | rfl) rfl | rfl)) | refine WA_seq (WA_region ?_) | refine WA_region ?_ | refine WA_exit ?_); try simp (maxSteps := 1000000) (disch := first | omega | rfl | decide | (simp only [List.length_cons, List.length_nil, List.length_append, Bs_length, Is_length, Vs_length, Bl_length, Il_length] <;> omega)) only [go_sem, Nat.reduceAdd, Int.reduceAdd, Int.reduceSub, Int.reduceMul, Bool.not_true, Bool.not_false, hne, hz, yieldA_at 2 22, yieldA_at 3 109]) | refine WA_seq ?_ | refine WA_block ?_ | (refine WA_skip ?_; try simp only [go_sem]) | (refine WA_ret ?_; try simp only [go_sem]) | refine WA_ct rfl ?_ | refine WA_cf rfl ?_))
                rw [elN_f0 (by simpa using hz)]
                (refine Drop_slots (by first | exact Nat.le_refl _ | simp) ?_; focus ((try simp only [JL_same, JL_J, JL_nil, Int.reduceAdd, Nat.sub_sub, Int.natCast_add, Int.natCast_one, Int.natCast_zero, Int.cast_ofNat_Int, Nat.add_zero, Bool.false_eq_true, if_false, if_true]); (try exact JL_refl _)))
              · rw [elN_other hrk]
                generalize elN m kk A2 C2 r = p at *
                obtain ⟨A3, C3⟩ := p
                simp only [] at *
                (repeat (first | ((first | (refine And.intro ?_ ?_; focus (first | exact plain_agg (by simp only [go_sem]) | exact plain_two (by first | exact plain_agg (by simp only [go_sem]) | rfl) rfl | rfl)) | refine WA_seq (WA_region ?_) | refine WA_region ?_ | refine WA_exit ?_); try simp (maxSteps := 1000000) (disch := first | omega | rfl | decide | (simp only [List.length_cons, List.length_nil, List.length_append, Bs_length, Is_length, Vs_length, Bl_length, Il_length] <;> omega)) only [go_sem, Nat.reduceAdd, Int.reduceAdd, Int.reduceSub, Int.reduceMul, Bool.not_true, Bool.not_false, hne, hz, yieldA_at 2 22, yieldA_at 3 109]) | refine WA_seq ?_ | refine WA_block ?_ | (refine WA_skip ?_; try simp only [go_sem]) | (refine WA_ret ?_; try simp only [go_sem]) | refine WA_ct rfl ?_ | refine WA_cf rfl ?_))
                generalize hf : A3 (r * 4 + kk) = f
                refine WA_forP (fun k => [(14, J), (113, .int .i64 k), (114, J), (115, J), (116, J), (117, J), (118, J), (119, J), (120, J), (121, J), (122, J), (123, J), (124, J), (125, J), (126, J), (127, J), (128, J), (129, J), (130, J), (131, J), (132, J), (133, J), (134, J), (135, J), (136, J), (137, J), (138, J), (139, J), (140, J), (141, J), (142, J), (143, J), (144, J), (145, J), (146, J), (147, J), (148, J)]) (fun k => [(0, ⟨Bs 16 (elm m f kk r A3 k), true⟩), (2, ⟨Bs 16 (elm m f kk r C3 k), true⟩)]) (4) ?_ ?_ ?_ <;> (try simp only [patT_cons, patT_nil, patL_cons, patL_nil, list_set_zero, list_set_succ, blk_set_zero, blk_set_succ])
                · rw [elm_zero, elm_zero]
                  (refine Drop_slots (by first | exact Nat.le_refl _ | simp) ?_; focus ((try simp only [JL_same, JL_J, JL_nil, Int.reduceAdd, Nat.sub_sub, Int.natCast_add, Int.natCast_one, Int.natCast_zero, Int.cast_ofNat_Int, Nat.add_zero, Bool.false_eq_true, if_false, if_true]); (try exact JL_refl _)))
                · intro j hj
                  have hkey1 := elm_key (m := m) (f := f) (x := A3) (j := j) hrk hj (by omega)
                  have hkey2 := elm_key (m := m) (f := f) (x := C3) (j := j) hrk hj (by omega)
                  (repeat (first | ((first | (refine And.intro ?_ ?_; focus (first | exact plain_agg (by simp only [go_sem]) | exact plain_two (by first | exact plain_agg (by simp only [go_sem]) | rfl) rfl | rfl)) | ((first | with_reducible apply callB_i | with_reducible apply callK_intro | with_reducible apply callQ_i); (focus (first | assumption | (with_reducible apply tmI_ac h0 h1 <;> (first | assumption | rfl | (simp (disch := omega) only [go_sem]; first | done | rfl) | omega | decide | (simp; done))))); (try (focus (refine WP.mk ?_ ?_; (focus ((repeat (first | exact trivial | (refine And.intro ?_ ?_; (focus first | exact plainV_wf rfl | (refine plainV_wf (plain_agg ?_); simp only [go_sem]; done) | (simp only [wfV, wf1, wfC, List.length_append, List.length_cons, List.length_nil]; omega))))))); (focus (first | rfl | (refine plain_agg ?_; simp only [go_sem]; done) | (refine plain_two ?_ ?_ <;> first | rfl | (refine plain_agg ?_; simp only [go_sem]; done)))))))) | refine WA_seq (WA_region ?_) | refine WA_region ?_ | refine WA_exit ?_); try simp (maxSteps := 1000000) (disch := first | omega | rfl | decide | (simp only [List.length_cons, List.length_nil, List.length_append, Bs_length, Is_length, Vs_length, Bl_length, Il_length] <;> omega)) only [go_sem, Nat.reduceAdd, Int.reduceAdd, Int.reduceSub, Int.reduceMul, Bool.not_true, Bool.not_false, elm_at, elm_set, hkey1, hkey2, yieldA_at 2 22, yieldA_at 3 109]) | (refine (WA_rb (id := 27) [16] (SubM.refl _) mixedOk ?_); simp only [List.size_toArray, List.length_cons, List.length_nil]; (repeat (first | ((first | (refine And.intro ?_ ?_; focus (first | exact plain_agg (by simp only [go_sem]) | exact plain_two (by first | exact plain_agg (by simp only [go_sem]) | rfl) rfl | rfl)) | ((first | with_reducible apply callB_i | with_reducible apply callK_intro | with_reducible apply callQ_i); (focus (first | assumption | (with_reducible apply tmI_ac h0 h1 <;> (first | assumption | rfl | (simp (disch := omega) only [go_sem]; first | done | rfl) | omega | decide | (simp; done))))); (try (focus (refine WP.mk ?_ ?_; (focus ((repeat (first | exact trivial | (refine And.intro ?_ ?_; (focus first | exact plainV_wf rfl | (refine plainV_wf (plain_agg ?_); simp only [go_sem]; done) | (simp only [wfV, wf1, wfC, List.length_append, List.length_cons, List.length_nil]; omega))))))); (focus (first | rfl | (refine plain_agg ?_; simp only [go_sem]; done) | (refine plain_two ?_ ?_ <;> first | rfl | (refine plain_agg ?_; simp only [go_sem]; done)))))))) | refine RB_take false [0, 1, 2, 3, 5, 6, 7, 8, 9, 10, 14] 6 (by rfl) (by kernel_rfl) (by decide) (by decide +kernel) ?_ | refine RB_take true [4, 11, 12] 3 (by rfl) (by kernel_rfl) (by decide) (by decide +kernel) ?_ | refine RB_take false [13, 15] 1 (by rfl) (by kernel_rfl) (by decide) (by decide +kernel) ?_ | refine RB_exec 16 _ (by rfl) (by decide +kernel) (by decide +kernel) ?_ | refine RB_done (by decide +kernel) ?_); try simp (maxSteps := 1000000) (disch := first | omega | rfl | decide | (simp only [List.length_cons, List.length_nil, List.length_append, Bs_length, Is_length, Vs_length, Bl_length, Il_length] <;> omega)) only [go_sem, Nat.reduceAdd, Int.reduceAdd, Int.reduceSub, Int.reduceMul, Bool.not_true, Bool.not_false, elm_at, elm_set, hkey1, hkey2, yieldA_at 2 22, yieldA_at 3 109])))) | (refine (WA_rb (id := 28) [16] (SubM.refl _) mixedOk ?_); simp only [List.size_toArray, List.length_cons, List.length_nil]; (repeat (first | ((first | (refine And.intro ?_ ?_; focus (first | exact plain_agg (by simp only [go_sem]) | exact plain_two (by first | exact plain_agg (by simp only [go_sem]) | rfl) rfl | rfl)) | ((first | with_reducible apply callB_i | with_reducible apply callK_intro | with_reducible apply callQ_i); (focus (first | assumption | (with_reducible apply tmI_ac h0 h1 <;> (first | assumption | rfl | (simp (disch := omega) only [go_sem]; first | done | rfl) | omega | decide | (simp; done))))); (try (focus (refine WP.mk ?_ ?_; (focus ((repeat (first | exact trivial | (refine And.intro ?_ ?_; (focus first | exact plainV_wf rfl | (refine plainV_wf (plain_agg ?_); simp only [go_sem]; done) | (simp only [wfV, wf1, wfC, List.length_append, List.length_cons, List.length_nil]; omega))))))); (focus (first | rfl | (refine plain_agg ?_; simp only [go_sem]; done) | (refine plain_two ?_ ?_ <;> first | rfl | (refine plain_agg ?_; simp only [go_sem]; done)))))))) | refine RB_take false [0, 1, 2, 3, 5, 6, 7, 8, 9, 10, 14] 6 (by rfl) (by kernel_rfl) (by decide) (by decide +kernel) ?_ | refine RB_take true [4, 11, 12] 3 (by rfl) (by kernel_rfl) (by decide) (by decide +kernel) ?_ | refine RB_take false [13, 15] 1 (by rfl) (by kernel_rfl) (by decide) (by decide +kernel) ?_ | refine RB_exec 16 _ (by rfl) (by decide +kernel) (by decide +kernel) ?_ | refine RB_done (by decide +kernel) ?_); try simp (maxSteps := 1000000) (disch := first | omega | rfl | decide | (simp only [List.length_cons, List.length_nil, List.length_append, Bs_length, Is_length, Vs_length, Bl_length, Il_length] <;> omega)) only [go_sem, Nat.reduceAdd, Int.reduceAdd, Int.reduceSub, Int.reduceMul, Bool.not_true, Bool.not_false, elm_at, elm_set, hkey1, hkey2, yieldA_at 2 22, yieldA_at 3 109])))) | refine WA_seq ?_ | refine WA_block ?_ | (refine WA_skip ?_; try simp only [go_sem]) | (refine WA_ret ?_; try simp only [go_sem]) | refine WA_ct rfl ?_ | refine WA_cf rfl ?_))
                  (refine Drop_slots (by first | exact Nat.le_refl _ | simp) ?_; focus ((try simp only [JL_same, JL_J, JL_nil, Int.reduceAdd, Nat.sub_sub, Int.natCast_add, Int.natCast_one, Int.natCast_zero, Int.cast_ofNat_Int, Nat.add_zero, Bool.false_eq_true, if_false, if_true]); (try exact JL_refl _)))
                · (repeat (first | ((first | (refine And.intro ?_ ?_; focus (first | exact plain_agg (by simp only [go_sem]) | exact plain_two (by first | exact plain_agg (by simp only [go_sem]) | rfl) rfl | rfl)) | refine WA_seq (WA_region ?_) | refine WA_region ?_ | refine WA_exit ?_); try simp (maxSteps := 1000000) (disch := first | omega | rfl | decide | (simp only [List.length_cons, List.length_nil, List.length_append, Bs_length, Is_length, Vs_length, Bl_length, Il_length] <;> omega)) only [go_sem, Nat.reduceAdd, Int.reduceAdd, Int.reduceSub, Int.reduceMul, Bool.not_true, Bool.not_false, yieldA_at 2 22, yieldA_at 3 109]) | refine WA_seq ?_ | refine WA_block ?_ | (refine WA_skip ?_; try simp only [go_sem]) | (refine WA_ret ?_; try simp only [go_sem]) | refine WA_ct rfl ?_ | refine WA_cf rfl ?_))
                  (refine Drop_slots (by first | exact Nat.le_refl _ | simp) ?_; focus ((try simp only [JL_same, JL_J, JL_nil, Int.reduceAdd, Nat.sub_sub, Int.natCast_add, Int.natCast_one, Int.natCast_zero, Int.cast_ofNat_Int, Nat.add_zero, Bool.false_eq_true, if_false, if_true]); (try exact JL_refl _)))
          · (repeat (first | ((first | (refine And.intro ?_ ?_; focus (first | exact plain_agg (by simp only [go_sem]) | exact plain_two (by first | exact plain_agg (by simp only [go_sem]) | rfl) rfl | rfl)) | refine WA_seq (WA_region ?_) | refine WA_region ?_ | refine WA_exit ?_); try simp (maxSteps := 1000000) (disch := first | omega | rfl | decide | (simp only [List.length_cons, List.length_nil, List.length_append, Bs_length, Is_length, Vs_length, Bl_length, Il_length] <;> omega)) only [go_sem, Nat.reduceAdd, Int.reduceAdd, Int.reduceSub, Int.reduceMul, Bool.not_true, Bool.not_false, yieldA_at 2 22, yieldA_at 3 109]) | refine WA_seq ?_ | refine WA_block ?_ | (refine WA_skip ?_; try simp only [go_sem]) | (refine WA_ret ?_; try simp only [go_sem]) | refine WA_ct rfl ?_ | refine WA_cf rfl ?_))
            refine ⟨hnx, ?_⟩
            (refine Drop_slots (by first | exact Nat.le_refl _ | simp) ?_; focus ((try simp only [JL_same, JL_J, JL_nil, Int.reduceAdd, Nat.sub_sub, Int.natCast_add, Int.natCast_one, Int.natCast_zero, Int.cast_ofNat_Int, Nat.add_zero, Bool.false_eq_true, if_false, if_true]); (try exact JL_refl _)))
  · intro hJ
    (repeat (first | ((first | (refine And.intro ?_ ?_; focus (first | exact plain_agg (by simp only [go_sem]) | exact plain_two (by first | exact plain_agg (by simp only [go_sem]) | rfl) rfl | rfl)) | refine WA_seq (WA_region ?_) | refine WA_region ?_ | refine WA_exit ?_); try simp (maxSteps := 1000000) (disch := first | omega | rfl | decide | (simp only [List.length_cons, List.length_nil, List.length_append, Bs_length, Is_length, Vs_length, Bl_length, Il_length] <;> omega)) only [go_sem, Nat.reduceAdd, Int.reduceAdd, Int.reduceSub, Int.reduceMul, Bool.not_true, Bool.not_false, yieldA_at 2 22, yieldA_at 3 109]) | (refine (WA_rb (id := 32) [3] (SubM.refl _) mixedOk ?_); simp only [List.size_toArray, List.length_cons, List.length_nil]; (repeat (first | ((first | (refine And.intro ?_ ?_; focus (first | exact plain_agg (by simp only [go_sem]) | exact plain_two (by first | exact plain_agg (by simp only [go_sem]) | rfl) rfl | rfl)) | refine RB_take false [0, 2] 2 (by rfl) (by kernel_rfl) (by decide) (by decide +kernel) ?_ | refine RB_take true [1] 1 (by rfl) (by kernel_rfl) (by decide) (by decide +kernel) ?_ | refine RB_exec 3 _ (by rfl) (by decide +kernel) (by decide +kernel) ?_ | refine RB_done (by decide +kernel) ?_); try simp (maxSteps := 1000000) (disch := first | omega | rfl | decide | (simp only [List.length_cons, List.length_nil, List.length_append, Bs_length, Is_length, Vs_length, Bl_length, Il_length] <;> omega)) only [go_sem, Nat.reduceAdd, Int.reduceAdd, Int.reduceSub, Int.reduceMul, Bool.not_true, Bool.not_false, yieldA_at 2 22, yieldA_at 3 109])))) | refine WA_seq ?_ | refine WA_block ?_ | (refine WA_skip ?_; try simp only [go_sem]) | (refine WA_ret ?_; try simp only [go_sem]) | refine WA_ct rfl ?_ | refine WA_cf rfl ?_))
    ((first | refine ret_none (by first | exact .inr rfl | exact .inl rfl) ?_ | refine ret_same (by first | exact .inr rfl | exact .inl rfl) ?_ (by first | rfl | exact plain_agg (by simp only [go_sem]) | exact plain_two (by first | exact plain_agg (by simp only [go_sem]) | rfl) (by first | exact plain_agg (by simp only [go_sem]) | rfl)) | refine ret_full (by first | exact .inr rfl | exact .inl rfl) (by simp) ?_); simp (maxSteps := 1000000) (disch := first | omega | rfl | decide | (simp only [List.length_cons, List.length_nil, List.length_append, Bs_length, Is_length, Vs_length, Bl_length, Il_length] <;> omega)) only [go_sem, Nat.reduceAdd, Int.reduceAdd, Int.reduceSub, Int.reduceMul, Bool.not_true, Bool.not_false, detF, backF, hJ]; try rfl)

end Go.Proofs.Ytkgiocoiojdgfaa
/- DeterminantIn, InverseMatrix. -/
namespace Go.Proofs.Ytkgiocoiojdgfaa
set_option linter.unusedSimpArgs false
set_option linter.unusedVariables false
set_option maxRecDepth 20000
set_option maxHeartbeats 1000000
open Go.Abs

def codeF (m : Int) : Int := if fieldB m.toNat then 0 else 1
theorem detS_ac (m : Int) (a : Nat → UInt8) (h : List Blk) : AC Try.prog 76 [.int .i64 m, .agg (Bs 16 a).toArray] h (.tuple #[B (if fieldB m.toNat then detF m.toNat a else 0), .int .i64 (codeF m)]) h := by
  cases hf : fieldB m.toNat
  · (refine AC_begin (fun _ _ => Try.call76 _ _) Try.func76 rfl Try.ntmps76 Try.results76 (fun hwf => ?_); simp only [List.length_cons, List.length_nil, Nat.reduceAdd, Nat.reduceSub, List.replicate, List.cons_append, List.nil_append])
    (repeat (first | ((first | (refine And.intro ?_ ?_; focus (first | exact plain_agg (by simp only [go_sem]) | exact plain_two (by first | exact plain_agg (by simp only [go_sem]) | rfl) rfl | rfl)) | ((first | with_reducible apply callB_i | with_reducible apply callK_intro | with_reducible apply callQ_i); (focus (first | assumption | (with_reducible apply fieldS_ac <;> (first | assumption | rfl | (simp (disch := omega) only [go_sem]; first | done | rfl) | omega | decide | (simp; done))))); (try (focus (refine WP.mk ?_ ?_; (focus ((repeat (first | exact trivial | (refine And.intro ?_ ?_; (focus first | exact plainV_wf rfl | (refine plainV_wf (plain_agg ?_); simp only [go_sem]; done) | (simp only [wfV, wf1, wfC, List.length_append, List.length_cons, List.length_nil]; omega))))))); (focus (first | rfl | (refine plain_agg ?_; simp only [go_sem]; done) | (refine plain_two ?_ ?_ <;> first | rfl | (refine plain_agg ?_; simp only [go_sem]; done)))))))) | refine WA_seq (WA_region ?_) | refine WA_region ?_ | refine WA_exit ?_); try simp (maxSteps := 1000000) (disch := first | omega | rfl | decide | (simp only [List.length_cons, List.length_nil, List.length_append, Bs_length, Is_length, Vs_length, Bl_length, Il_length] <;> omega)) only [go_sem, Nat.reduceAdd, Int.reduceAdd, Int.reduceSub, Int.reduceMul, Bool.not_true, Bool.not_false, hf]) | refine WA_seq ?_ | refine WA_block ?_ | (refine WA_skip ?_; try simp only [go_sem]) | (refine WA_ret ?_; try simp only [go_sem]) | refine WA_ct rfl ?_ | refine WA_cf rfl ?_))
    ((first | refine ret_none (by first | exact .inr rfl | exact .inl rfl) ?_ | refine ret_same (by first | exact .inr rfl | exact .inl rfl) ?_ (by first | rfl | exact plain_agg (by simp only [go_sem]) | exact plain_two (by first | exact plain_agg (by simp only [go_sem]) | rfl) (by first | exact plain_agg (by simp only [go_sem]) | rfl)) | refine ret_full (by first | exact .inr rfl | exact .inl rfl) (by simp) ?_); simp (maxSteps := 1000000) (disch := first | omega | rfl | decide | (simp only [List.length_cons, List.length_nil, List.length_append, Bs_length, Is_length, Vs_length, Bl_length, Il_length] <;> omega)) only [go_sem, Nat.reduceAdd, Int.reduceAdd, Int.reduceSub, Int.reduceMul, Bool.not_true, Bool.not_false, codeF, hf, Bool.false_eq_true, if_false]; try rfl)
  · obtain ⟨n, rfl, hn, h0, h1⟩ := fieldB_nat hf
    (refine AC_begin (fun _ _ => Try.call76 _ _) Try.func76 rfl Try.ntmps76 Try.results76 (fun hwf => ?_); simp only [List.length_cons, List.length_nil, Nat.reduceAdd, Nat.reduceSub, List.replicate, List.cons_append, List.nil_append])
    (repeat (first | ((first | (refine And.intro ?_ ?_; focus (first | exact plain_agg (by simp only [go_sem]) | exact plain_two (by first | exact plain_agg (by simp only [go_sem]) | rfl) rfl | rfl)) | ((first | with_reducible apply callB_i | with_reducible apply callK_intro | with_reducible apply callQ_i); (focus (first | assumption | ((first | with_reducible apply fieldS_ac | with_reducible apply redS_ac h0 h1) <;> (first | assumption | rfl | (simp (disch := omega) only [go_sem]; first | done | rfl) | omega | decide | (simp; done))))); (try (focus (refine WP.mk ?_ ?_; (focus ((repeat (first | exact trivial | (refine And.intro ?_ ?_; (focus first | exact plainV_wf rfl | (refine plainV_wf (plain_agg ?_); simp only [go_sem]; done) | (simp only [wfV, wf1, wfC, List.length_append, List.length_cons, List.length_nil]; omega))))))); (focus (first | rfl | (refine plain_agg ?_; simp only [go_sem]; done) | (refine plain_two ?_ ?_ <;> first | rfl | (refine plain_agg ?_; simp only [go_sem]; done)))))))) | refine WA_seq (WA_region ?_) | refine WA_region ?_ | refine WA_exit ?_); try simp (maxSteps := 1000000) (disch := first | omega | rfl | decide | (simp only [List.length_cons, List.length_nil, List.length_append, Bs_length, Is_length, Vs_length, Bl_length, Il_length] <;> omega)) only [go_sem, Nat.reduceAdd, Int.reduceAdd, Int.reduceSub, Int.reduceMul, Bool.not_true, Bool.not_false, hn]) | refine WA_seq ?_ | refine WA_block ?_ | (refine WA_skip ?_; try simp only [go_sem]) | (refine WA_ret ?_; try simp only [go_sem]) | refine WA_ct rfl ?_ | refine WA_cf rfl ?_))
    ((first | refine ret_none (by first | exact .inr rfl | exact .inl rfl) ?_ | refine ret_same (by first | exact .inr rfl | exact .inl rfl) ?_ (by first | rfl | exact plain_agg (by simp only [go_sem]) | exact plain_two (by first | exact plain_agg (by simp only [go_sem]) | rfl) (by first | exact plain_agg (by simp only [go_sem]) | rfl)) | refine ret_full (by first | exact .inr rfl | exact .inl rfl) (by simp) ?_); simp (maxSteps := 1000000) (disch := first | omega | rfl | decide | (simp only [List.length_cons, List.length_nil, List.length_append, Bs_length, Is_length, Vs_length, Bl_length, Il_length] <;> omega)) only [go_sem, Nat.reduceAdd, Int.reduceAdd, Int.reduceSub, Int.reduceMul, Bool.not_true, Bool.not_false, codeF, Int.toNat_natCast, hn, if_true]; try rfl)

theorem detI_ac (m : Int) (a : Nat → UInt8) (h : List Blk) : AC Try.prog 75 [.int .i64 m, .agg (Bs 16 a).toArray] h (.tuple #[B (if fieldB m.toNat then detF m.toNat a else 0), .int .i64 (codeF m)]) h := by
  cases hf : fieldB m.toNat
  · (refine AC_begin (fun _ _ => Try.call75 _ _) Try.func75 rfl Try.ntmps75 Try.results75 (fun hwf => ?_); simp only [List.length_cons, List.length_nil, Nat.reduceAdd, Nat.reduceSub, List.replicate, List.cons_append, List.nil_append])
    (repeat (first | ((first | (refine And.intro ?_ ?_; focus (first | exact plain_agg (by simp only [go_sem]) | exact plain_two (by first | exact plain_agg (by simp only [go_sem]) | rfl) rfl | rfl)) | ((first | with_reducible apply callB_i | with_reducible apply callK_intro | with_reducible apply callQ_i); (focus (first | assumption | (with_reducible apply isField_ac <;> (first | assumption | rfl | (simp (disch := omega) only [go_sem]; first | done | rfl) | omega | decide | (simp; done))))); (try (focus (refine WP.mk ?_ ?_; (focus ((repeat (first | exact trivial | (refine And.intro ?_ ?_; (focus first | exact plainV_wf rfl | (refine plainV_wf (plain_agg ?_); simp only [go_sem]; done) | (simp only [wfV, wf1, wfC, List.length_append, List.length_cons, List.length_nil]; omega))))))); (focus (first | rfl | (refine plain_agg ?_; simp only [go_sem]; done) | (refine plain_two ?_ ?_ <;> first | rfl | (refine plain_agg ?_; simp only [go_sem]; done)))))))) | refine WA_seq (WA_region ?_) | refine WA_region ?_ | refine WA_exit ?_); try simp (maxSteps := 1000000) (disch := first | omega | rfl | decide | (simp only [List.length_cons, List.length_nil, List.length_append, Bs_length, Is_length, Vs_length, Bl_length, Il_length] <;> omega)) only [go_sem, Nat.reduceAdd, Int.reduceAdd, Int.reduceSub, Int.reduceMul, Bool.not_true, Bool.not_false, hf]) | refine WA_seq ?_ | refine WA_block ?_ | (refine WA_skip ?_; try simp only [go_sem]) | (refine WA_ret ?_; try simp only [go_sem]) | refine WA_ct rfl ?_ | refine WA_cf rfl ?_))
    ((first | refine ret_none (by first | exact .inr rfl | exact .inl rfl) ?_ | refine ret_same (by first | exact .inr rfl | exact .inl rfl) ?_ (by first | rfl | exact plain_agg (by simp only [go_sem]) | exact plain_two (by first | exact plain_agg (by simp only [go_sem]) | rfl) (by first | exact plain_agg (by simp only [go_sem]) | rfl)) | refine ret_full (by first | exact .inr rfl | exact .inl rfl) (by simp) ?_); simp (maxSteps := 1000000) (disch := first | omega | rfl | decide | (simp only [List.length_cons, List.length_nil, List.length_append, Bs_length, Is_length, Vs_length, Bl_length, Il_length] <;> omega)) only [go_sem, Nat.reduceAdd, Int.reduceAdd, Int.reduceSub, Int.reduceMul, Bool.not_true, Bool.not_false, codeF, hf, Bool.false_eq_true, if_false]; try rfl)
  · obtain ⟨n, rfl, hn, h0, h1⟩ := fieldB_nat hf
    (refine AC_begin (fun _ _ => Try.call75 _ _) Try.func75 rfl Try.ntmps75 Try.results75 (fun hwf => ?_); simp only [List.length_cons, List.length_nil, Nat.reduceAdd, Nat.reduceSub, List.replicate, List.cons_append, List.nil_append])
    (repeat (first | ((first | (refine And.intro ?_ ?_; focus (first | exact plain_agg (by simp only [go_sem]) | exact plain_two (by first | exact plain_agg (by simp only [go_sem]) | rfl) rfl | rfl)) | ((first | with_reducible apply callB_i | with_reducible apply callK_intro | with_reducible apply callQ_i); (focus (first | assumption | ((first | with_reducible apply isField_ac | with_reducible apply redI_ac h0 h1) <;> (first | assumption | rfl | (simp (disch := omega) only [go_sem]; first | done | rfl) | omega | decide | (simp; done))))); (try (focus (refine WP.mk ?_ ?_; (focus ((repeat (first | exact trivial | (refine And.intro ?_ ?_; (focus first | exact plainV_wf rfl | (refine plainV_wf (plain_agg ?_); simp only [go_sem]; done) | (simp only [wfV, wf1, wfC, List.length_append, List.length_cons, List.length_nil]; omega))))))); (focus (first | rfl | (refine plain_agg ?_; simp only [go_sem]; done) | (refine plain_two ?_ ?_ <;> first | rfl | (refine plain_agg ?_; simp only [go_sem]; done)))))))) | refine WA_seq (WA_region ?_) | refine WA_region ?_ | refine WA_exit ?_); try simp (maxSteps := 1000000) (disch := first | omega | rfl | decide | (simp only [List.length_cons, List.length_nil, List.length_append, Bs_length, Is_length, Vs_length, Bl_length, Il_length] <;> omega)) only [go_sem, Nat.reduceAdd, Int.reduceAdd, Int.reduceSub, Int.reduceMul, Bool.not_true, Bool.not_false, hn]) | refine WA_seq ?_ | refine WA_block ?_ | (refine WA_skip ?_; try simp only [go_sem]) | (refine WA_ret ?_; try simp only [go_sem]) | refine WA_ct rfl ?_ | refine WA_cf rfl ?_))
    ((first | refine ret_none (by first | exact .inr rfl | exact .inl rfl) ?_ | refine ret_same (by first | exact .inr rfl | exact .inl rfl) ?_ (by first | rfl | exact plain_agg (by simp only [go_sem]) | exact plain_two (by first | exact plain_agg (by simp only [go_sem]) | rfl) (by first | exact plain_agg (by simp only [go_sem]) | rfl)) | refine ret_full (by first | exact .inr rfl | exact .inl rfl) (by simp) ?_); simp (maxSteps := 1000000) (disch := first | omega | rfl | decide | (simp only [List.length_cons, List.length_nil, List.length_append, Bs_length, Is_length, Vs_length, Bl_length, Il_length] <;> omega)) only [go_sem, Nat.reduceAdd, Int.reduceAdd, Int.reduceSub, Int.reduceMul, Bool.not_true, Bool.not_false, codeF, Int.toNat_natCast, hn, if_true]; try rfl)

theorem inverseS_ac {m : Nat} (h0 : 256 ≤ m) (h1 : m < 512) (a : Nat → UInt8) (h : List Blk) : AC Try.prog 178 [.int .i64 m, .agg (Bs 16 a).toArray] h (.tuple #[.agg (Bs 16 (backF m a)).toArray, .bool (detF m a != 0)]) h := by
  (refine AC_begin (fun _ _ => Try.call178 _ _) Try.func178 rfl Try.ntmps178 Try.results178 (fun hwf => ?_); simp only [List.length_cons, List.length_nil, Nat.reduceAdd, Nat.reduceSub, List.replicate, List.cons_append, List.nil_append])
  (repeat (first | ((first | (refine And.intro ?_ ?_; focus (first | exact plain_agg (by simp only [go_sem]) | exact plain_two (by first | exact plain_agg (by simp only [go_sem]) | rfl) rfl | rfl)) | ((first | with_reducible apply callB_i | with_reducible apply callK_intro | with_reducible apply callQ_i); (focus (first | assumption | (with_reducible apply redS_ac h0 h1 <;> (first | assumption | rfl | (simp (disch := omega) only [go_sem]; first | done | rfl) | omega | decide | (simp; done))))); (try (focus (refine WP.mk ?_ ?_; (focus ((repeat (first | exact trivial | (refine And.intro ?_ ?_; (focus first | exact plainV_wf rfl | (refine plainV_wf (plain_agg ?_); simp only [go_sem]; done) | (simp only [wfV, wf1, wfC, List.length_append, List.length_cons, List.length_nil]; omega))))))); (focus (first | rfl | (refine plain_agg ?_; simp only [go_sem]; done) | (refine plain_two ?_ ?_ <;> first | rfl | (refine plain_agg ?_; simp only [go_sem]; done)))))))) | refine WA_seq (WA_region ?_) | refine WA_region ?_ | refine WA_exit ?_); try simp (maxSteps := 1000000) (disch := first | omega | rfl | decide | (simp only [List.length_cons, List.length_nil, List.length_append, Bs_length, Is_length, Vs_length, Bl_length, Il_length] <;> omega)) only [go_sem, Nat.reduceAdd, Int.reduceAdd, Int.reduceSub, Int.reduceMul, Bool.not_true, Bool.not_false]) | refine WA_seq ?_ | refine WA_block ?_ | (refine WA_skip ?_; try simp only [go_sem]) | (refine WA_ret ?_; try simp only [go_sem]) | refine WA_ct rfl ?_ | refine WA_cf rfl ?_))
  ((first | refine ret_none (by first | exact .inr rfl | exact .inl rfl) ?_ | refine ret_same (by first | exact .inr rfl | exact .inl rfl) ?_ (by first | rfl | exact plain_agg (by simp only [go_sem]) | exact plain_two (by first | exact plain_agg (by simp only [go_sem]) | rfl) (by first | exact plain_agg (by simp only [go_sem]) | rfl)) | refine ret_full (by first | exact .inr rfl | exact .inl rfl) (by simp) ?_); simp (maxSteps := 1000000) (disch := first | omega | rfl | decide | (simp only [List.length_cons, List.length_nil, List.length_append, Bs_length, Is_length, Vs_length, Bl_length, Il_length] <;> omega)) only [go_sem, Nat.reduceAdd, Int.reduceAdd, Int.reduceSub, Int.reduceMul, Bool.not_true, Bool.not_false]; try rfl)

def invMF (m : Int) (a : Nat → UInt8) : Nat → UInt8 := if fieldB m.toNat && detF m.toNat a != 0 then backF m.toNat a else zeroF
def invMC (m : Int) (a : Nat → UInt8) : Int := if fieldB m.toNat then (if detF m.toNat a != 0 then 0 else 5) else 1
theorem invMS_ac (m : Int) (a : Nat → UInt8) (h : List Blk) : AC Try.prog 78 [.int .i64 m, .agg (Bs 16 a).toArray] h (.tuple #[.agg (Bs 16 (invMF m a)).toArray, .int .i64 (invMC m a)]) h := by
  cases hf : fieldB m.toNat
  · (refine AC_begin (fun _ _ => Try.call78 _ _) Try.func78 rfl Try.ntmps78 Try.results78 (fun hwf => ?_); simp only [List.length_cons, List.length_nil, Nat.reduceAdd, Nat.reduceSub, List.replicate, List.cons_append, List.nil_append])
    (repeat (first | ((first | (refine And.intro ?_ ?_; focus (first | exact plain_agg (by simp only [go_sem]) | exact plain_two (by first | exact plain_agg (by simp only [go_sem]) | rfl) rfl | rfl)) | ((first | with_reducible apply callB_i | with_reducible apply callK_intro | with_reducible apply callQ_i); (focus (first | assumption | (with_reducible apply fieldS_ac <;> (first | assumption | rfl | (simp (disch := omega) only [go_sem]; first | done | rfl) | omega | decide | (simp; done))))); (try (focus (refine WP.mk ?_ ?_; (focus ((repeat (first | exact trivial | (refine And.intro ?_ ?_; (focus first | exact plainV_wf rfl | (refine plainV_wf (plain_agg ?_); simp only [go_sem]; done) | (simp only [wfV, wf1, wfC, List.length_append, List.length_cons, List.length_nil]; omega))))))); (focus (first | rfl | (refine plain_agg ?_; simp only [go_sem]; done) | (refine plain_two ?_ ?_ <;> first | rfl | (refine plain_agg ?_; simp only [go_sem]; done)))))))) | refine WA_seq (WA_region ?_) | refine WA_region ?_ | refine WA_exit ?_); try simp (maxSteps := 1000000) (disch := first | omega | rfl | decide | (simp only [List.length_cons, List.length_nil, List.length_append, Bs_length, Is_length, Vs_length, Bl_length, Il_length] <;> omega)) only [go_sem, Nat.reduceAdd, Int.reduceAdd, Int.reduceSub, Int.reduceMul, Bool.not_true, Bool.not_false, hf]) | refine WA_seq ?_ | refine WA_block ?_ | (refine WA_skip ?_; try simp only [go_sem]) | (refine WA_ret ?_; try simp only [go_sem]) | refine WA_ct rfl ?_ | refine WA_cf rfl ?_))
    ((first | refine ret_none (by first | exact .inr rfl | exact .inl rfl) ?_ | refine ret_same (by first | exact .inr rfl | exact .inl rfl) ?_ (by first | rfl | exact plain_agg (by simp only [go_sem]) | exact plain_two (by first | exact plain_agg (by simp only [go_sem]) | rfl) (by first | exact plain_agg (by simp only [go_sem]) | rfl)) | refine ret_full (by first | exact .inr rfl | exact .inl rfl) (by simp) ?_); simp (maxSteps := 1000000) (disch := first | omega | rfl | decide | (simp only [List.length_cons, List.length_nil, List.length_append, Bs_length, Is_length, Vs_length, Bl_length, Il_length] <;> omega)) only [go_sem, Nat.reduceAdd, Int.reduceAdd, Int.reduceSub, Int.reduceMul, Bool.not_true, Bool.not_false, invMF, invMC, hf, Bool.false_eq_true, if_false, Bool.false_and, zeroF]; try rfl)
  · obtain ⟨n, rfl, hn, h0, h1⟩ := fieldB_nat hf
    cases hd : detF n a != 0
    · have hd' : (detF n a == 0) = true := by simpa using hd
      (refine AC_begin (fun _ _ => Try.call78 _ _) Try.func78 rfl Try.ntmps78 Try.results78 (fun hwf => ?_); simp only [List.length_cons, List.length_nil, Nat.reduceAdd, Nat.reduceSub, List.replicate, List.cons_append, List.nil_append])
      (repeat (first | ((first | (refine And.intro ?_ ?_; focus (first | exact plain_agg (by simp only [go_sem]) | exact plain_two (by first | exact plain_agg (by simp only [go_sem]) | rfl) rfl | rfl)) | ((first | with_reducible apply callB_i | with_reducible apply callK_intro | with_reducible apply callQ_i); (focus (first | assumption | ((first | with_reducible apply fieldS_ac | with_reducible apply inverseS_ac h0 h1) <;> (first | assumption | rfl | (simp (disch := omega) only [go_sem]; first | done | rfl) | omega | decide | (simp; done))))); (try (focus (refine WP.mk ?_ ?_; (focus ((repeat (first | exact trivial | (refine And.intro ?_ ?_; (focus first | exact plainV_wf rfl | (refine plainV_wf (plain_agg ?_); simp only [go_sem]; done) | (simp only [wfV, wf1, wfC, List.length_append, List.length_cons, List.length_nil]; omega))))))); (focus (first | rfl | (refine plain_agg ?_; simp only [go_sem]; done) | (refine plain_two ?_ ?_ <;> first | rfl | (refine plain_agg ?_; simp only [go_sem]; done)))))))) | refine WA_seq (WA_region ?_) | refine WA_region ?_ | refine WA_exit ?_); try simp (maxSteps := 1000000) (disch := first | omega | rfl | decide | (simp only [List.length_cons, List.length_nil, List.length_append, Bs_length, Is_length, Vs_length, Bl_length, Il_length] <;> omega)) only [go_sem, Nat.reduceAdd, Int.reduceAdd, Int.reduceSub, Int.reduceMul, Bool.not_true, Bool.not_false, hn, hd, hd']) | refine WA_seq ?_ | refine WA_block ?_ | (refine WA_skip ?_; try simp only [go_sem]) | (refine WA_ret ?_; try simp only [go_sem]) | refine WA_ct rfl ?_ | refine WA_cf rfl ?_))
      ((first | refine ret_none (by first | exact .inr rfl | exact .inl rfl) ?_ | refine ret_same (by first | exact .inr rfl | exact .inl rfl) ?_ (by first | rfl | exact plain_agg (by simp only [go_sem]) | exact plain_two (by first | exact plain_agg (by simp only [go_sem]) | rfl) (by first | exact plain_agg (by simp only [go_sem]) | rfl)) | refine ret_full (by first | exact .inr rfl | exact .inl rfl) (by simp) ?_); simp (maxSteps := 1000000) (disch := first | omega | rfl | decide | (simp only [List.length_cons, List.length_nil, List.length_append, Bs_length, Is_length, Vs_length, Bl_length, Il_length] <;> omega)) only [go_sem, Nat.reduceAdd, Int.reduceAdd, Int.reduceSub, Int.reduceMul, Bool.not_true, Bool.not_false, invMF, invMC, Int.toNat_natCast, hn, hd, Bool.true_and, if_true, Bool.false_eq_true, if_false, zeroF]; try rfl)
    · have hd' : (detF n a == 0) = false := by simpa using hd
      (refine AC_begin (fun _ _ => Try.call78 _ _) Try.func78 rfl Try.ntmps78 Try.results78 (fun hwf => ?_); simp only [List.length_cons, List.length_nil, Nat.reduceAdd, Nat.reduceSub, List.replicate, List.cons_append, List.nil_append])
      (repeat (first | ((first | (refine And.intro ?_ ?_; focus (first | exact plain_agg (by simp only [go_sem]) | exact plain_two (by first | exact plain_agg (by simp only [go_sem]) | rfl) rfl | rfl)) | ((first | with_reducible apply callB_i | with_reducible apply callK_intro | with_reducible apply callQ_i); (focus (first | assumption | ((first | with_reducible apply fieldS_ac | with_reducible apply inverseS_ac h0 h1) <;> (first | assumption | rfl | (simp (disch := omega) only [go_sem]; first | done | rfl) | omega | decide | (simp; done))))); (try (focus (refine WP.mk ?_ ?_; (focus ((repeat (first | exact trivial | (refine And.intro ?_ ?_; (focus first | exact plainV_wf rfl | (refine plainV_wf (plain_agg ?_); simp only [go_sem]; done) | (simp only [wfV, wf1, wfC, List.length_append, List.length_cons, List.length_nil]; omega))))))); (focus (first | rfl | (refine plain_agg ?_; simp only [go_sem]; done) | (refine plain_two ?_ ?_ <;> first | rfl | (refine plain_agg ?_; simp only [go_sem]; done)))))))) | refine WA_seq (WA_region ?_) | refine WA_region ?_ | refine WA_exit ?_); try simp (maxSteps := 1000000) (disch := first | omega | rfl | decide | (simp only [List.length_cons, List.length_nil, List.length_append, Bs_length, Is_length, Vs_length, Bl_length, Il_length] <;> omega)) only [go_sem, Nat.reduceAdd, Int.reduceAdd, Int.reduceSub, Int.reduceMul, Bool.not_true, Bool.not_false, hn, hd, hd']) | refine WA_seq ?_ | refine WA_block ?_ | (refine WA_skip ?_; try simp only [go_sem]) | (refine WA_ret ?_; try simp only [go_sem]) | refine WA_ct rfl ?_ | refine WA_cf rfl ?_))
      ((first | refine ret_none (by first | exact .inr rfl | exact .inl rfl) ?_ | refine ret_same (by first | exact .inr rfl | exact .inl rfl) ?_ (by first | rfl | exact plain_agg (by simp only [go_sem]) | exact plain_two (by first | exact plain_agg (by simp only [go_sem]) | rfl) (by first | exact plain_agg (by simp only [go_sem]) | rfl)) | refine ret_full (by first | exact .inr rfl | exact .inl rfl) (by simp) ?_); simp (maxSteps := 1000000) (disch := first | omega | rfl | decide | (simp only [List.length_cons, List.length_nil, List.length_append, Bs_length, Is_length, Vs_length, Bl_length, Il_length] <;> omega)) only [go_sem, Nat.reduceAdd, Int.reduceAdd, Int.reduceSub, Int.reduceMul, Bool.not_true, Bool.not_false, invMF, invMC, Int.toNat_natCast, hn, hd, Bool.true_and, if_true]; try rfl)

theorem invMI_ac (m : Int) (a : Nat → UInt8) (h : List Blk) : AC Try.prog 77 [.int .i64 m, .agg (Bs 16 a).toArray] h (.tuple #[.agg (Bs 16 (invMF m a)).toArray, .int .i64 (invMC m a)]) h := by
  cases hf : fieldB m.toNat
  · (refine AC_begin (fun _ _ => Try.call77 _ _) Try.func77 rfl Try.ntmps77 Try.results77 (fun hwf => ?_); simp only [List.length_cons, List.length_nil, Nat.reduceAdd, Nat.reduceSub, List.replicate, List.cons_append, List.nil_append])
    (repeat (first | ((first | (refine And.intro ?_ ?_; focus (first | exact plain_agg (by simp only [go_sem]) | exact plain_two (by first | exact plain_agg (by simp only [go_sem]) | rfl) rfl | rfl)) | ((first | with_reducible apply callB_i | with_reducible apply callK_intro | with_reducible apply callQ_i); (focus (first | assumption | (with_reducible apply isField_ac <;> (first | assumption | rfl | (simp (disch := omega) only [go_sem]; first | done | rfl) | omega | decide | (simp; done))))); (try (focus (refine WP.mk ?_ ?_; (focus ((repeat (first | exact trivial | (refine And.intro ?_ ?_; (focus first | exact plainV_wf rfl | (refine plainV_wf (plain_agg ?_); simp only [go_sem]; done) | (simp only [wfV, wf1, wfC, List.length_append, List.length_cons, List.length_nil]; omega))))))); (focus (first | rfl | (refine plain_agg ?_; simp only [go_sem]; done) | (refine plain_two ?_ ?_ <;> first | rfl | (refine plain_agg ?_; simp only [go_sem]; done)))))))) | refine WA_seq (WA_region ?_) | refine WA_region ?_ | refine WA_exit ?_); try simp (maxSteps := 1000000) (disch := first | omega | rfl | decide | (simp only [List.length_cons, List.length_nil, List.length_append, Bs_length, Is_length, Vs_length, Bl_length, Il_length] <;> omega)) only [go_sem, Nat.reduceAdd, Int.reduceAdd, Int.reduceSub, Int.reduceMul, Bool.not_true, Bool.not_false, hf]) | refine WA_seq ?_ | refine WA_block ?_ | (refine WA_skip ?_; try simp only [go_sem]) | (refine WA_ret ?_; try simp only [go_sem]) | refine WA_ct rfl ?_ | refine WA_cf rfl ?_))
    ((first | refine ret_none (by first | exact .inr rfl | exact .inl rfl) ?_ | refine ret_same (by first | exact .inr rfl | exact .inl rfl) ?_ (by first | rfl | exact plain_agg (by simp only [go_sem]) | exact plain_two (by first | exact plain_agg (by simp only [go_sem]) | rfl) (by first | exact plain_agg (by simp only [go_sem]) | rfl)) | refine ret_full (by first | exact .inr rfl | exact .inl rfl) (by simp) ?_); simp (maxSteps := 1000000) (disch := first | omega | rfl | decide | (simp only [List.length_cons, List.length_nil, List.length_append, Bs_length, Is_length, Vs_length, Bl_length, Il_length] <;> omega)) only [go_sem, Nat.reduceAdd, Int.reduceAdd, Int.reduceSub, Int.reduceMul, Bool.not_true, Bool.not_false, invMF, invMC, hf, Bool.false_eq_true, if_false, Bool.false_and, zeroF]; try rfl)
  · obtain ⟨n, rfl, hn, h0, h1⟩ := fieldB_nat hf
    cases hd : detF n a != 0
    · have hd' : (detF n a == 0) = true := by simpa using hd
      (refine AC_begin (fun _ _ => Try.call77 _ _) Try.func77 rfl Try.ntmps77 Try.results77 (fun hwf => ?_); simp only [List.length_cons, List.length_nil, Nat.reduceAdd, Nat.reduceSub, List.replicate, List.cons_append, List.nil_append])
      (repeat (first | ((first | (refine And.intro ?_ ?_; focus (first | exact plain_agg (by simp only [go_sem]) | exact plain_two (by first | exact plain_agg (by simp only [go_sem]) | rfl) rfl | rfl)) | ((first | with_reducible apply callB_i | with_reducible apply callK_intro | with_reducible apply callQ_i); (focus (first | assumption | ((first | with_reducible apply isField_ac | with_reducible apply redI_ac h0 h1) <;> (first | assumption | rfl | (simp (disch := omega) only [go_sem]; first | done | rfl) | omega | decide | (simp; done))))); (try (focus (refine WP.mk ?_ ?_; (focus ((repeat (first | exact trivial | (refine And.intro ?_ ?_; (focus first | exact plainV_wf rfl | (refine plainV_wf (plain_agg ?_); simp only [go_sem]; done) | (simp only [wfV, wf1, wfC, List.length_append, List.length_cons, List.length_nil]; omega))))))); (focus (first | rfl | (refine plain_agg ?_; simp only [go_sem]; done) | (refine plain_two ?_ ?_ <;> first | rfl | (refine plain_agg ?_; simp only [go_sem]; done)))))))) | refine WA_seq (WA_region ?_) | refine WA_region ?_ | refine WA_exit ?_); try simp (maxSteps := 1000000) (disch := first | omega | rfl | decide | (simp only [List.length_cons, List.length_nil, List.length_append, Bs_length, Is_length, Vs_length, Bl_length, Il_length] <;> omega)) only [go_sem, Nat.reduceAdd, Int.reduceAdd, Int.reduceSub, Int.reduceMul, Bool.not_true, Bool.not_false, hn, hd, hd']) | refine WA_seq ?_ | refine WA_block ?_ | (refine WA_skip ?_; try simp only [go_sem]) | (refine WA_ret ?_; try simp only [go_sem]) | refine WA_ct rfl ?_ | refine WA_cf rfl ?_))
      ((first | refine ret_none (by first | exact .inr rfl | exact .inl rfl) ?_ | refine ret_same (by first | exact .inr rfl | exact .inl rfl) ?_ (by first | rfl | exact plain_agg (by simp only [go_sem]) | exact plain_two (by first | exact plain_agg (by simp only [go_sem]) | rfl) (by first | exact plain_agg (by simp only [go_sem]) | rfl)) | refine ret_full (by first | exact .inr rfl | exact .inl rfl) (by simp) ?_); simp (maxSteps := 1000000) (disch := first | omega | rfl | decide | (simp only [List.length_cons, List.length_nil, List.length_append, Bs_length, Is_length, Vs_length, Bl_length, Il_length] <;> omega)) only [go_sem, Nat.reduceAdd, Int.reduceAdd, Int.reduceSub, Int.reduceMul, Bool.not_true, Bool.not_false, invMF, invMC, Int.toNat_natCast, hn, hd, Bool.true_and, if_true, Bool.false_eq_true, if_false, zeroF]; try rfl)
    · have hd' : (detF n a == 0) = false := by simpa using hd
      (refine AC_begin (fun _ _ => Try.call77 _ _) Try.func77 rfl Try.ntmps77 Try.results77 (fun hwf => ?_); simp only [List.length_cons, List.length_nil, Nat.reduceAdd, Nat.reduceSub, List.replicate, List.cons_append, List.nil_append])
      (repeat (first | ((first | (refine And.intro ?_ ?_; focus (first | exact plain_agg (by simp only [go_sem]) | exact plain_two (by first | exact plain_agg (by simp only [go_sem]) | rfl) rfl | rfl)) | ((first | with_reducible apply callB_i | with_reducible apply callK_intro | with_reducible apply callQ_i); (focus (first | assumption | ((first | with_reducible apply isField_ac | with_reducible apply redI_ac h0 h1) <;> (first | assumption | rfl | (simp (disch := omega) only [go_sem]; first | done | rfl) | omega | decide | (simp; done))))); (try (focus (refine WP.mk ?_ ?_; (focus ((repeat (first | exact trivial | (refine And.intro ?_ ?_; (focus first | exact plainV_wf rfl | (refine plainV_wf (plain_agg ?_); simp only [go_sem]; done) | (simp only [wfV, wf1, wfC, List.length_append, List.length_cons, List.length_nil]; omega))))))); (focus (first | rfl | (refine plain_agg ?_; simp only [go_sem]; done) | (refine plain_two ?_ ?_ <;> first | rfl | (refine plain_agg ?_; simp only [go_sem]; done)))))))) | refine WA_seq (WA_region ?_) | refine WA_region ?_ | refine WA_exit ?_); try simp (maxSteps := 1000000) (disch := first | omega | rfl | decide | (simp only [List.length_cons, List.length_nil, List.length_append, Bs_length, Is_length, Vs_length, Bl_length, Il_length] <;> omega)) only [go_sem, Nat.reduceAdd, Int.reduceAdd, Int.reduceSub, Int.reduceMul, Bool.not_true, Bool.not_false, hn, hd, hd']) | refine WA_seq ?_ | refine WA_block ?_ | (refine WA_skip ?_; try simp only [go_sem]) | (refine WA_ret ?_; try simp only [go_sem]) | refine WA_ct rfl ?_ | refine WA_cf rfl ?_))
      ((first | refine ret_none (by first | exact .inr rfl | exact .inl rfl) ?_ | refine ret_same (by first | exact .inr rfl | exact .inl rfl) ?_ (by first | rfl | exact plain_agg (by simp only [go_sem]) | exact plain_two (by first | exact plain_agg (by simp only [go_sem]) | rfl) (by first | exact plain_agg (by simp only [go_sem]) | rfl)) | refine ret_full (by first | exact .inr rfl | exact .inl rfl) (by simp) ?_); simp (maxSteps := 1000000) (disch := first | omega | rfl | decide | (simp only [List.length_cons, List.length_nil, List.length_append, Bs_length, Is_length, Vs_length, Bl_length, Il_length] <;> omega)) only [go_sem, Nat.reduceAdd, Int.reduceAdd, Int.reduceSub, Int.reduceMul, Bool.not_true, Bool.not_false, invMF, invMC, Int.toNat_natCast, hn, hd, Bool.true_and, if_true]; try rfl)

end Go.Proofs.Ytkgiocoiojdgfaa
/- Lists of bytes: copies and comparisons. -/
namespace Go.Proofs.Ytkgiocoiojdgfaa
set_option linter.unusedSimpArgs false
set_option linter.unusedVariables false
set_option maxRecDepth 20000
set_option maxHeartbeats 1000000
open Go.Abs

/-- An element that stands ahead of the i-th too. -/
def twiceAt (f : Nat → UInt8) (i k : Nat) : Bool := (List.range k).any fun j => f i == f j
def twiceP (f : Nat → UInt8) (n : Nat) : Bool := (List.range n).any fun i => twiceAt f i i
end Go.Proofs.Ytkgiocoiojdgfaa
/- CauchyMatrix. -/
namespace Go.Proofs.Ytkgiocoiojdgfaa
set_option linter.unusedSimpArgs false
set_option linter.unusedVariables false
set_option maxRecDepth 20000
set_option maxHeartbeats 1000000
open Go.Abs

/-- The matrix of the inverses of the sums. -/
def cauF (m : Nat) (f g : Nat → UInt8) : Nat → UInt8 := fun n => inv m (f (n / 4) ^^^ g (n % 4))
theorem cau_at {m i j : Nat} {f g : Nat → UInt8} (hj : j < 4) : inv m (f i ^^^ g j) = cauF m f g (i * 4 + j) := by
  unfold cauF; rw [show (i * 4 + j) / 4 = i by omega, show (i * 4 + j) % 4 = j by omega]
theorem cauchyS_ac {m : Nat} (h0 : 256 ≤ m) (h1 : m < 512) {h : List Blk} {b b' : Nat} {f g : Nat → UInt8} {r r' : Bool} (hb : h[b]? = some ⟨Bs 4 f, r⟩) (hb' : h[b']? = some ⟨Bs 4 g, r'⟩) : AC Try.prog 213 [.int .i64 m, sl b 0 4 1, sl b' 0 4 1] h (.agg (Bs 16 (cauF m f g)).toArray) h := by
  have hbl := blt hb
  have hbl' := blt hb'
  (refine AC_begin (fun _ _ => Try.call213 _ _) Try.func213 rfl Try.ntmps213 Try.results213 (fun hwf => ?_); simp only [List.length_cons, List.length_nil, Nat.reduceAdd, Nat.reduceSub, List.replicate, List.cons_append, List.nil_append])
  (repeat (first | ((first | (refine And.intro ?_ ?_; focus (first | exact plain_agg (by simp only [go_sem]) | exact plain_two (by first | exact plain_agg (by simp only [go_sem]) | rfl) rfl | rfl)) | refine WA_seq (WA_region ?_) | refine WA_region ?_ | refine WA_exit ?_); try simp (maxSteps := 1000000) (disch := first | omega | rfl | decide | (simp only [List.length_cons, List.length_nil, List.length_append, Bs_length, Is_length, Vs_length, Bl_length, Il_length] <;> omega)) only [go_sem, Nat.reduceAdd, Int.reduceAdd, Int.reduceSub, Int.reduceMul, Bool.not_true, Bool.not_false]) | refine WA_seq ?_ | refine WA_block ?_ | (refine WA_skip ?_; try simp only [go_sem]) | (refine WA_ret ?_; try simp only [go_sem]) | refine WA_ct rfl ?_ | refine WA_cf rfl ?_))
  refine WA_forP (fun k => [(8, .int .i64 k), (9, J), (11, J), (12, J), (13, J), (14, J), (15, J), (16, J), (17, J), (18, J), (19, J), (20, J), (21, J), (22, J), (23, J), (24, J), (25, J), (26, J), (27, J), (28, J), (29, J), (30, J), (31, J), (32, J), (33, J)]) (fun k => [(1, ⟨Bs 16 (pre (k * 4) (cauF m f g) fun _ => 0), true⟩)]) (4) ?_ ?_ ?_ <;> (try simp only [patT_cons, patT_nil, patL_cons, patL_nil, list_set_zero, list_set_succ, blk_set_zero, blk_set_succ])
  · rw [Nat.zero_mul, pre_zero]
    (refine Drop_slots (by first | exact Nat.le_refl _ | simp) ?_; focus ((try simp only [JL_same, JL_J, JL_nil, Int.reduceAdd, Nat.sub_sub, Int.natCast_add, Int.natCast_one, Int.natCast_zero, Int.cast_ofNat_Int, Nat.add_zero, Bool.false_eq_true, if_false, if_true]); (try exact JL_refl _)))
  · intro i hi
    (repeat (first | ((first | (refine And.intro ?_ ?_; focus (first | exact plain_agg (by simp only [go_sem]) | exact plain_two (by first | exact plain_agg (by simp only [go_sem]) | rfl) rfl | rfl)) | refine WA_seq (WA_region ?_) | refine WA_region ?_ | refine WA_exit ?_); try simp (maxSteps := 1000000) (disch := first | omega | rfl | decide | (simp only [List.length_cons, List.length_nil, List.length_append, Bs_length, Is_length, Vs_length, Bl_length, Il_length] <;> omega)) only [go_sem, Nat.reduceAdd, Int.reduceAdd, Int.reduceSub, Int.reduceMul, Bool.not_true, Bool.not_false]) | refine WA_seq ?_ | refine WA_block ?_ | (refine WA_skip ?_; try simp only [go_sem]) | (refine WA_ret ?_; try simp only [go_sem]) | refine WA_ct rfl ?_ | refine WA_cf rfl ?_))
    refine WA_forP (fun k => [(9, .int .i64 k), (15, J), (16, J), (17, J), (18, J), (19, J), (20, J), (21, J), (22, J), (23, J), (24, J), (25, J), (26, J), (27, J), (28, J), (29, J), (30, J), (31, J), (32, J), (33, J)]) (fun k => [(1, ⟨Bs 16 (pre (i * 4 + k) (cauF m f g) fun _ => 0), true⟩)]) (4) ?_ ?_ ?_ <;> (try simp only [patT_cons, patT_nil, patL_cons, patL_nil, list_set_zero, list_set_succ, blk_set_zero, blk_set_succ])
    · (refine Drop_slots (by first | exact Nat.le_refl _ | simp) ?_; focus ((try simp only [JL_same, JL_J, JL_nil, Int.reduceAdd, Nat.sub_sub, Int.natCast_add, Int.natCast_one, Int.natCast_zero, Int.cast_ofNat_Int, Nat.add_zero, Bool.false_eq_true, if_false, if_true]); (try exact JL_refl _)))
    · intro j hj
      (repeat (first | ((first | (refine And.intro ?_ ?_; focus (first | exact plain_agg (by simp only [go_sem]) | exact plain_two (by first | exact plain_agg (by simp only [go_sem]) | rfl) rfl | rfl)) | ((first | with_reducible apply callB_i | with_reducible apply callK_intro | with_reducible apply callQ_i); (focus (first | assumption | (with_reducible apply invS_ac h0 h1 <;> (first | assumption | rfl | (simp (disch := omega) only [go_sem]; first | done | rfl) | omega | decide | (simp; done))))); (try (focus (refine WP.mk ?_ ?_; (focus ((repeat (first | exact trivial | (refine And.intro ?_ ?_; (focus first | exact plainV_wf rfl | (refine plainV_wf (plain_agg ?_); simp only [go_sem]; done) | (simp only [wfV, wf1, wfC, List.length_append, List.length_cons, List.length_nil]; omega))))))); (focus (first | rfl | (refine plain_agg ?_; simp only [go_sem]; done) | (refine plain_two ?_ ?_ <;> first | rfl | (refine plain_agg ?_; simp only [go_sem]; done)))))))) | refine WA_seq (WA_region ?_) | refine WA_region ?_ | refine WA_exit ?_); try simp (maxSteps := 1000000) (disch := first | omega | rfl | decide | (simp only [List.length_cons, List.length_nil, List.length_append, Bs_length, Is_length, Vs_length, Bl_length, Il_length] <;> omega)) only [go_sem, Nat.reduceAdd, Int.reduceAdd, Int.reduceSub, Int.reduceMul, Bool.not_true, Bool.not_false, look_old hb, look_old hb', cau_at hj, upd_pre]) | (refine (WA_rb (id := 8) [15] (SubM.refl _) mixedOk ?_); simp only [List.size_toArray, List.length_cons, List.length_nil]; (repeat (first | ((first | (refine And.intro ?_ ?_; focus (first | exact plain_agg (by simp only [go_sem]) | exact plain_two (by first | exact plain_agg (by simp only [go_sem]) | rfl) rfl | rfl)) | ((first | with_reducible apply callB_i | with_reducible apply callK_intro | with_reducible apply callQ_i); (focus (first | assumption | (with_reducible apply invS_ac h0 h1 <;> (first | assumption | rfl | (simp (disch := omega) only [go_sem]; first | done | rfl) | omega | decide | (simp; done))))); (try (focus (refine WP.mk ?_ ?_; (focus ((repeat (first | exact trivial | (refine And.intro ?_ ?_; (focus first | exact plainV_wf rfl | (refine plainV_wf (plain_agg ?_); simp only [go_sem]; done) | (simp only [wfV, wf1, wfC, List.length_append, List.length_cons, List.length_nil]; omega))))))); (focus (first | rfl | (refine plain_agg ?_; simp only [go_sem]; done) | (refine plain_two ?_ ?_ <;> first | rfl | (refine plain_agg ?_; simp only [go_sem]; done)))))))) | refine RB_take false [0, 1, 2, 3, 4, 5, 7, 8, 9, 13] 6 (by rfl) (by kernel_rfl) (by decide) (by decide +kernel) ?_ | refine RB_take true [6, 10] 4 (by rfl) (by kernel_rfl) (by decide) (by decide +kernel) ?_ | refine RB_take false [11] 3 (by rfl) (by kernel_rfl) (by decide) (by decide +kernel) ?_ | refine RB_take true [12] 2 (by rfl) (by kernel_rfl) (by decide) (by decide +kernel) ?_ | refine RB_take false [14] 1 (by rfl) (by kernel_rfl) (by decide) (by decide +kernel) ?_ | refine RB_exec 15 _ (by rfl) (by decide +kernel) (by decide +kernel) ?_ | refine RB_done (by decide +kernel) ?_); try simp (maxSteps := 1000000) (disch := first | omega | rfl | decide | (simp only [List.length_cons, List.length_nil, List.length_append, Bs_length, Is_length, Vs_length, Bl_length, Il_length] <;> omega)) only [go_sem, Nat.reduceAdd, Int.reduceAdd, Int.reduceSub, Int.reduceMul, Bool.not_true, Bool.not_false, look_old hb, look_old hb', cau_at hj, upd_pre])))) | refine WA_seq ?_ | refine WA_block ?_ | (refine WA_skip ?_; try simp only [go_sem]) | (refine WA_ret ?_; try simp only [go_sem]) | refine WA_ct rfl ?_ | refine WA_cf rfl ?_))
      (refine Drop_slots (by first | exact Nat.le_refl _ | simp) ?_; focus ((try simp only [JL_same, JL_J, JL_nil, Int.reduceAdd, Nat.sub_sub, Int.natCast_add, Int.natCast_one, Int.natCast_zero, Int.cast_ofNat_Int, Nat.add_zero, Bool.false_eq_true, if_false, if_true]); (try exact JL_refl _)))
    · (repeat (first | ((first | (refine And.intro ?_ ?_; focus (first | exact plain_agg (by simp only [go_sem]) | exact plain_two (by first | exact plain_agg (by simp only [go_sem]) | rfl) rfl | rfl)) | refine WA_seq (WA_region ?_) | refine WA_region ?_ | refine WA_exit ?_); try simp (maxSteps := 1000000) (disch := first | omega | rfl | decide | (simp only [List.length_cons, List.length_nil, List.length_append, Bs_length, Is_length, Vs_length, Bl_length, Il_length] <;> omega)) only [go_sem, Nat.reduceAdd, Int.reduceAdd, Int.reduceSub, Int.reduceMul, Bool.not_true, Bool.not_false]) | refine WA_seq ?_ | refine WA_block ?_ | (refine WA_skip ?_; try simp only [go_sem]) | (refine WA_ret ?_; try simp only [go_sem]) | refine WA_ct rfl ?_ | refine WA_cf rfl ?_))
      rw [show (i + 1) * 4 = i * 4 + 4 by omega]
      (refine Drop_slots (by first | exact Nat.le_refl _ | simp) ?_; focus ((try simp only [JL_same, JL_J, JL_nil, Int.reduceAdd, Nat.sub_sub, Int.natCast_add, Int.natCast_one, Int.natCast_zero, Int.cast_ofNat_Int, Nat.add_zero, Bool.false_eq_true, if_false, if_true]); (try exact JL_refl _)))
  · (repeat (first | ((first | (refine And.intro ?_ ?_; focus (first | exact plain_agg (by simp only [go_sem]) | exact plain_two (by first | exact plain_agg (by simp only [go_sem]) | rfl) rfl | rfl)) | refine WA_seq (WA_region ?_) | refine WA_region ?_ | refine WA_exit ?_); try simp (maxSteps := 1000000) (disch := first | omega | rfl | decide | (simp only [List.length_cons, List.length_nil, List.length_append, Bs_length, Is_length, Vs_length, Bl_length, Il_length] <;> omega)) only [go_sem, Nat.reduceAdd, Int.reduceAdd, Int.reduceSub, Int.reduceMul, Bool.not_true, Bool.not_false]) | refine WA_seq ?_ | refine WA_block ?_ | (refine WA_skip ?_; try simp only [go_sem]) | (refine WA_ret ?_; try simp only [go_sem]) | refine WA_ct rfl ?_ | refine WA_cf rfl ?_))
    ((first | refine ret_none (by first | exact .inr rfl | exact .inl rfl) ?_ | refine ret_same (by first | exact .inr rfl | exact .inl rfl) ?_ (by first | rfl | exact plain_agg (by simp only [go_sem]) | exact plain_two (by first | exact plain_agg (by simp only [go_sem]) | rfl) (by first | exact plain_agg (by simp only [go_sem]) | rfl)) | refine ret_full (by first | exact .inr rfl | exact .inl rfl) (by simp) ?_); simp (maxSteps := 1000000) (disch := first | omega | rfl | decide | (simp only [List.length_cons, List.length_nil, List.length_append, Bs_length, Is_length, Vs_length, Bl_length, Il_length] <;> omega)) only [go_sem, Nat.reduceAdd, Int.reduceAdd, Int.reduceSub, Int.reduceMul, Bool.not_true, Bool.not_false, Bs_pre]; try rfl)

end Go.Proofs.Ytkgiocoiojdgfaa
/- Which boxes and places are permutations, which matrices have inverses: networks and ciphers. -/
namespace Go.Proofs.Ytkgiocoiojdgfaa
set_option linter.unusedSimpArgs false
set_option linter.unusedVariables false
set_option maxRecDepth 20000
set_option maxHeartbeats 1000000
open Go.Abs

/-- Whether 16 bytes are a permutation of the places. -/
def plRange (f : Nat → UInt8) (k : Nat) : Bool := (List.range k).all fun i => decide ((f i).toNat < 16)
def plOk (f : Nat → UInt8) : Bool := plRange f 16 && !twiceP f 16
theorem isInvS_ac {m : Nat} (h0 : 256 ≤ m) (h1 : m < 512) (a : Nat → UInt8) (h : List Blk) : AC Try.prog 184 [.int .i64 m, .agg (Bs 16 a).toArray] h (.bool (detF m a != 0)) h := by
  (refine AC_begin (fun _ _ => Try.call184 _ _) Try.func184 rfl Try.ntmps184 Try.results184 (fun hwf => ?_); simp only [List.length_cons, List.length_nil, Nat.reduceAdd, Nat.reduceSub, List.replicate, List.cons_append, List.nil_append])
  (repeat (first | ((first | (refine And.intro ?_ ?_; focus (first | exact plain_agg (by simp only [go_sem]) | exact plain_two (by first | exact plain_agg (by simp only [go_sem]) | rfl) rfl | rfl)) | ((first | with_reducible apply callB_i | with_reducible apply callK_intro | with_reducible apply callQ_i); (focus (first | assumption | (with_reducible apply redS_ac h0 h1 <;> (first | assumption | rfl | (simp (disch := omega) only [go_sem]; first | done | rfl) | omega | decide | (simp; done))))); (try (focus (refine WP.mk ?_ ?_; (focus ((repeat (first | exact trivial | (refine And.intro ?_ ?_; (focus first | exact plainV_wf rfl | (refine plainV_wf (plain_agg ?_); simp only [go_sem]; done) | (simp only [wfV, wf1, wfC, List.length_append, List.length_cons, List.length_nil]; omega))))))); (focus (first | rfl | (refine plain_agg ?_; simp only [go_sem]; done) | (refine plain_two ?_ ?_ <;> first | rfl | (refine plain_agg ?_; simp only [go_sem]; done)))))))) | refine WA_seq (WA_region ?_) | refine WA_region ?_ | refine WA_exit ?_); try simp (maxSteps := 1000000) (disch := first | omega | rfl | decide | (simp only [List.length_cons, List.length_nil, List.length_append, Bs_length, Is_length, Vs_length, Bl_length, Il_length] <;> omega)) only [go_sem, Nat.reduceAdd, Int.reduceAdd, Int.reduceSub, Int.reduceMul, Bool.not_true, Bool.not_false]) | refine WA_seq ?_ | refine WA_block ?_ | (refine WA_skip ?_; try simp only [go_sem]) | (refine WA_ret ?_; try simp only [go_sem]) | refine WA_ct rfl ?_ | refine WA_cf rfl ?_))
  ((first | refine ret_none (by first | exact .inr rfl | exact .inl rfl) ?_ | refine ret_same (by first | exact .inr rfl | exact .inl rfl) ?_ (by first | rfl | exact plain_agg (by simp only [go_sem]) | exact plain_two (by first | exact plain_agg (by simp only [go_sem]) | rfl) (by first | exact plain_agg (by simp only [go_sem]) | rfl)) | refine ret_full (by first | exact .inr rfl | exact .inl rfl) (by simp) ?_); simp (maxSteps := 1000000) (disch := first | omega | rfl | decide | (simp only [List.length_cons, List.length_nil, List.length_append, Bs_length, Is_length, Vs_length, Bl_length, Il_length] <;> omega)) only [go_sem, Nat.reduceAdd, Int.reduceAdd, Int.reduceSub, Int.reduceMul, Bool.not_true, Bool.not_false]; try rfl)

end Go.Proofs.Ytkgiocoiojdgfaa
/- OrderOfMatrix. -/
namespace Go.Proofs.Ytkgiocoiojdgfaa
set_option linter.unusedSimpArgs false
set_option linter.unusedVariables false
set_option maxRecDepth 20000
set_option maxHeartbeats 1000000
open Go.Abs

def mmP (m : Nat) (a b : Nat → UInt8) (i j : Nat) : Nat → UInt8
  | 0 => 0
  | k + 1 => mmP m a b i j k ^^^ tm m (a (i * 4 + k)) (b (k * 4 + j))
/-- The product of two matrices. -/
def mmF (m : Nat) (a b : Nat → UInt8) : Nat → UInt8 := fun n => mmP m a b (n / 4) (n % 4) 4
theorem mmF_at {m : Nat} {a b : Nat → UInt8} {i j : Nat} (hj : j < 4) : mmF m a b (i * 4 + j) = mmP m a b i j 4 := by
  unfold mmF; rw [show (i * 4 + j) / 4 = i by omega, show (i * 4 + j) % 4 = j by omega]
theorem mmS_ac {m : Nat} (h0 : 256 ≤ m) (h1 : m < 512) (a b : Nat → UInt8) (h : List Blk) : AC Try.prog 175 [.int .i64 m, .agg (Bs 16 a).toArray, .agg (Bs 16 b).toArray] h (.agg (Bs 16 (mmF m a b)).toArray) h := by
  (refine AC_begin (fun _ _ => Try.call175 _ _) Try.func175 rfl Try.ntmps175 Try.results175 (fun hwf => ?_); simp only [List.length_cons, List.length_nil, Nat.reduceAdd, Nat.reduceSub, List.replicate, List.cons_append, List.nil_append])
  (repeat (first | ((first | (refine And.intro ?_ ?_; focus (first | exact plain_agg (by simp only [go_sem]) | exact plain_two (by first | exact plain_agg (by simp only [go_sem]) | rfl) rfl | rfl)) | refine WA_seq (WA_region ?_) | refine WA_region ?_ | refine WA_exit ?_); try simp (maxSteps := 1000000) (disch := first | omega | rfl | decide | (simp only [List.length_cons, List.length_nil, List.length_append, Bs_length, Is_length, Vs_length, Bl_length, Il_length] <;> omega)) only [go_sem, Nat.reduceAdd, Int.reduceAdd, Int.reduceSub, Int.reduceMul, Bool.not_true, Bool.not_false]) | refine WA_seq ?_ | refine WA_block ?_ | (refine WA_skip ?_; try simp only [go_sem]) | (refine WA_ret ?_; try simp only [go_sem]) | refine WA_ct rfl ?_ | refine WA_cf rfl ?_))
  refine WA_forP (fun k => [(8, .int .i64 k), (9, J), (10, J), (12, J), (13, J), (14, J), (15, J), (16, J), (17, J), (18, J), (19, J), (20, J), (21, J), (22, J), (23, J), (24, J), (25, J), (26, J), (27, J), (28, J), (29, J), (30, J), (31, J), (32, J), (33, J), (34, J), (35, J), (36, J), (37, J), (38, J), (39, J), (40, J), (41, J), (42, J), (43, J), (44, J), (45, J)]) (fun k => [(3, ⟨Bs 16 (doneF (mmF m a b) (k * 4) 0), true⟩)]) (4) ?_ ?_ ?_ <;> (try simp only [patT_cons, patT_nil, patL_cons, patL_nil, list_set_zero, list_set_succ, blk_set_zero, blk_set_succ])
  · (refine Drop_slots (by first | exact Nat.le_refl _ | simp) ?_; focus ((try simp only [JL_same, JL_J, JL_nil, Int.reduceAdd, Nat.sub_sub, Int.natCast_add, Int.natCast_one, Int.natCast_zero, Int.cast_ofNat_Int, Nat.add_zero, Bool.false_eq_true, if_false, if_true, doneF_start, Nat.zero_mul]); (try exact JL_refl _)))
  · intro i hi
    (repeat (first | ((first | (refine And.intro ?_ ?_; focus (first | exact plain_agg (by simp only [go_sem]) | exact plain_two (by first | exact plain_agg (by simp only [go_sem]) | rfl) rfl | rfl)) | refine WA_seq (WA_region ?_) | refine WA_region ?_ | refine WA_exit ?_); try simp (maxSteps := 1000000) (disch := first | omega | rfl | decide | (simp only [List.length_cons, List.length_nil, List.length_append, Bs_length, Is_length, Vs_length, Bl_length, Il_length] <;> omega)) only [go_sem, Nat.reduceAdd, Int.reduceAdd, Int.reduceSub, Int.reduceMul, Bool.not_true, Bool.not_false]) | refine WA_seq ?_ | refine WA_block ?_ | (refine WA_skip ?_; try simp only [go_sem]) | (refine WA_ret ?_; try simp only [go_sem]) | refine WA_ct rfl ?_ | refine WA_cf rfl ?_))
    refine WA_forP (fun k => [(9, .int .i64 k), (10, J), (16, J), (17, J), (18, J), (19, J), (20, J), (21, J), (22, J), (23, J), (24, J), (25, J), (26, J), (27, J), (28, J), (29, J), (30, J), (31, J), (32, J), (33, J), (34, J), (35, J), (36, J), (37, J), (38, J), (39, J), (40, J), (41, J), (42, J), (43, J), (44, J), (45, J)]) (fun k => [(3, ⟨Bs 16 (doneF (mmF m a b) (i * 4 + k) 0), true⟩)]) (4) ?_ ?_ ?_ <;> (try simp only [patT_cons, patT_nil, patL_cons, patL_nil, list_set_zero, list_set_succ, blk_set_zero, blk_set_succ])
    · (refine Drop_slots (by first | exact Nat.le_refl _ | simp) ?_; focus ((try simp only [JL_same, JL_J, JL_nil, Int.reduceAdd, Nat.sub_sub, Int.natCast_add, Int.natCast_one, Int.natCast_zero, Int.cast_ofNat_Int, Nat.add_zero, Bool.false_eq_true, if_false, if_true]); (try exact JL_refl _)))
    · intro j hj
      (repeat (first | ((first | (refine And.intro ?_ ?_; focus (first | exact plain_agg (by simp only [go_sem]) | exact plain_two (by first | exact plain_agg (by simp only [go_sem]) | rfl) rfl | rfl)) | refine WA_seq (WA_region ?_) | refine WA_region ?_ | refine WA_exit ?_); try simp (maxSteps := 1000000) (disch := first | omega | rfl | decide | (simp only [List.length_cons, List.length_nil, List.length_append, Bs_length, Is_length, Vs_length, Bl_length, Il_length] <;> omega)) only [go_sem, Nat.reduceAdd, Int.reduceAdd, Int.reduceSub, Int.reduceMul, Bool.not_true, Bool.not_false]) | refine WA_seq ?_ | refine WA_block ?_ | (refine WA_skip ?_; try simp only [go_sem]) | (refine WA_ret ?_; try simp only [go_sem]) | refine WA_ct rfl ?_ | refine WA_cf rfl ?_))
      refine WA_forP (fun k => [(10, .int .i64 k), (20, J), (21, J), (22, J), (23, J), (24, J), (25, J), (26, J), (27, J), (28, J), (29, J), (30, J), (31, J), (32, J), (33, J), (34, J), (35, J), (36, J), (37, J), (38, J), (39, J), (40, J), (41, J), (42, J), (43, J), (44, J), (45, J)]) (fun k => [(3, ⟨Bs 16 (doneF (mmF m a b) (i * 4 + j) (mmP m a b i j k)), true⟩)]) (4) ?_ ?_ ?_ <;> (try simp only [patT_cons, patT_nil, patL_cons, patL_nil, list_set_zero, list_set_succ, blk_set_zero, blk_set_succ])
      · (refine Drop_slots (by first | exact Nat.le_refl _ | simp) ?_; focus ((try simp only [JL_same, JL_J, JL_nil, Int.reduceAdd, Nat.sub_sub, Int.natCast_add, Int.natCast_one, Int.natCast_zero, Int.cast_ofNat_Int, Nat.add_zero, Bool.false_eq_true, if_false, if_true, mmP]); (try exact JL_refl _)))
      · intro q hq
        (repeat (first | ((first | (refine And.intro ?_ ?_; focus (first | exact plain_agg (by simp only [go_sem]) | exact plain_two (by first | exact plain_agg (by simp only [go_sem]) | rfl) rfl | rfl)) | ((first | with_reducible apply callB_i | with_reducible apply callK_intro | with_reducible apply callQ_i); (focus (first | assumption | (with_reducible apply tmS_ac h0 h1 <;> (first | assumption | rfl | (simp (disch := omega) only [go_sem]; first | done | rfl) | omega | decide | (simp; done))))); (try (focus (refine WP.mk ?_ ?_; (focus ((repeat (first | exact trivial | (refine And.intro ?_ ?_; (focus first | exact plainV_wf rfl | (refine plainV_wf (plain_agg ?_); simp only [go_sem]; done) | (simp only [wfV, wf1, wfC, List.length_append, List.length_cons, List.length_nil]; omega))))))); (focus (first | rfl | (refine plain_agg ?_; simp only [go_sem]; done) | (refine plain_two ?_ ?_ <;> first | rfl | (refine plain_agg ?_; simp only [go_sem]; done)))))))) | refine WA_seq (WA_region ?_) | refine WA_region ?_ | refine WA_exit ?_); try simp (maxSteps := 1000000) (disch := first | omega | rfl | decide | (simp only [List.length_cons, List.length_nil, List.length_append, Bs_length, Is_length, Vs_length, Bl_length, Il_length] <;> omega)) only [go_sem, Nat.reduceAdd, Int.reduceAdd, Int.reduceSub, Int.reduceMul, Bool.not_true, Bool.not_false, doneF_at, doneF_set]) | (refine (WA_rb (id := 11) [22] (SubM.refl _) mixedOk ?_); simp only [List.size_toArray, List.length_cons, List.length_nil]; (repeat (first | ((first | (refine And.intro ?_ ?_; focus (first | exact plain_agg (by simp only [go_sem]) | exact plain_two (by first | exact plain_agg (by simp only [go_sem]) | rfl) rfl | rfl)) | ((first | with_reducible apply callB_i | with_reducible apply callK_intro | with_reducible apply callQ_i); (focus (first | assumption | (with_reducible apply tmS_ac h0 h1 <;> (first | assumption | rfl | (simp (disch := omega) only [go_sem]; first | done | rfl) | omega | decide | (simp; done))))); (try (focus (refine WP.mk ?_ ?_; (focus ((repeat (first | exact trivial | (refine And.intro ?_ ?_; (focus first | exact plainV_wf rfl | (refine plainV_wf (plain_agg ?_); simp only [go_sem]; done) | (simp only [wfV, wf1, wfC, List.length_append, List.length_cons, List.length_nil]; omega))))))); (focus (first | rfl | (refine plain_agg ?_; simp only [go_sem]; done) | (refine plain_two ?_ ?_ <;> first | rfl | (refine plain_agg ?_; simp only [go_sem]; done)))))))) | refine RB_take false [0, 1, 2, 3, 4, 5, 7, 8, 9, 10, 11, 13, 14, 15, 16, 20] 7 (by rfl) (by kernel_rfl) (by decide) (by decide +kernel) ?_ | refine RB_take true [6, 12, 17, 18] 3 (by rfl) (by kernel_rfl) (by decide) (by decide +kernel) ?_ | refine RB_take false [19, 21] 1 (by rfl) (by kernel_rfl) (by decide) (by decide +kernel) ?_ | refine RB_exec 22 _ (by rfl) (by decide +kernel) (by decide +kernel) ?_ | refine RB_done (by decide +kernel) ?_); try simp (maxSteps := 1000000) (disch := first | omega | rfl | decide | (simp only [List.length_cons, List.length_nil, List.length_append, Bs_length, Is_length, Vs_length, Bl_length, Il_length] <;> omega)) only [go_sem, Nat.reduceAdd, Int.reduceAdd, Int.reduceSub, Int.reduceMul, Bool.not_true, Bool.not_false, doneF_at, doneF_set])))) | refine WA_seq ?_ | refine WA_block ?_ | (refine WA_skip ?_; try simp only [go_sem]) | (refine WA_ret ?_; try simp only [go_sem]) | refine WA_ct rfl ?_ | refine WA_cf rfl ?_))
        (refine Drop_slots (by first | exact Nat.le_refl _ | simp) ?_; focus ((try simp only [JL_same, JL_J, JL_nil, Int.reduceAdd, Nat.sub_sub, Int.natCast_add, Int.natCast_one, Int.natCast_zero, Int.cast_ofNat_Int, Nat.add_zero, Bool.false_eq_true, if_false, if_true, mmP]); (try exact JL_refl _)))
      · (repeat (first | ((first | (refine And.intro ?_ ?_; focus (first | exact plain_agg (by simp only [go_sem]) | exact plain_two (by first | exact plain_agg (by simp only [go_sem]) | rfl) rfl | rfl)) | refine WA_seq (WA_region ?_) | refine WA_region ?_ | refine WA_exit ?_); try simp (maxSteps := 1000000) (disch := first | omega | rfl | decide | (simp only [List.length_cons, List.length_nil, List.length_append, Bs_length, Is_length, Vs_length, Bl_length, Il_length] <;> omega)) only [go_sem, Nat.reduceAdd, Int.reduceAdd, Int.reduceSub, Int.reduceMul, Bool.not_true, Bool.not_false]) | refine WA_seq ?_ | refine WA_block ?_ | (refine WA_skip ?_; try simp only [go_sem]) | (refine WA_ret ?_; try simp only [go_sem]) | refine WA_ct rfl ?_ | refine WA_cf rfl ?_))
        rw [doneF_next (mmF_at hj)]
        (refine Drop_slots (by first | exact Nat.le_refl _ | simp) ?_; focus ((try simp only [JL_same, JL_J, JL_nil, Int.reduceAdd, Nat.sub_sub, Int.natCast_add, Int.natCast_one, Int.natCast_zero, Int.cast_ofNat_Int, Nat.add_zero, Bool.false_eq_true, if_false, if_true]); (try exact JL_refl _)))
    · (repeat (first | ((first | (refine And.intro ?_ ?_; focus (first | exact plain_agg (by simp only [go_sem]) | exact plain_two (by first | exact plain_agg (by simp only [go_sem]) | rfl) rfl | rfl)) | refine WA_seq (WA_region ?_) | refine WA_region ?_ | refine WA_exit ?_); try simp (maxSteps := 1000000) (disch := first | omega | rfl | decide | (simp only [List.length_cons, List.length_nil, List.length_append, Bs_length, Is_length, Vs_length, Bl_length, Il_length] <;> omega)) only [go_sem, Nat.reduceAdd, Int.reduceAdd, Int.reduceSub, Int.reduceMul, Bool.not_true, Bool.not_false]) | refine WA_seq ?_ | refine WA_block ?_ | (refine WA_skip ?_; try simp only [go_sem]) | (refine WA_ret ?_; try simp only [go_sem]) | refine WA_ct rfl ?_ | refine WA_cf rfl ?_))
      rw [show (i + 1) * 4 = i * 4 + 4 by omega]
      (refine Drop_slots (by first | exact Nat.le_refl _ | simp) ?_; focus ((try simp only [JL_same, JL_J, JL_nil, Int.reduceAdd, Nat.sub_sub, Int.natCast_add, Int.natCast_one, Int.natCast_zero, Int.cast_ofNat_Int, Nat.add_zero, Bool.false_eq_true, if_false, if_true]); (try exact JL_refl _)))
  · (repeat (first | ((first | (refine And.intro ?_ ?_; focus (first | exact plain_agg (by simp only [go_sem]) | exact plain_two (by first | exact plain_agg (by simp only [go_sem]) | rfl) rfl | rfl)) | refine WA_seq (WA_region ?_) | refine WA_region ?_ | refine WA_exit ?_); try simp (maxSteps := 1000000) (disch := first | omega | rfl | decide | (simp only [List.length_cons, List.length_nil, List.length_append, Bs_length, Is_length, Vs_length, Bl_length, Il_length] <;> omega)) only [go_sem, Nat.reduceAdd, Int.reduceAdd, Int.reduceSub, Int.reduceMul, Bool.not_true, Bool.not_false]) | refine WA_seq ?_ | refine WA_block ?_ | (refine WA_skip ?_; try simp only [go_sem]) | (refine WA_ret ?_; try simp only [go_sem]) | refine WA_ct rfl ?_ | refine WA_cf rfl ?_))
    ((first | refine ret_none (by first | exact .inr rfl | exact .inl rfl) ?_ | refine ret_same (by first | exact .inr rfl | exact .inl rfl) ?_ (by first | rfl | exact plain_agg (by simp only [go_sem]) | exact plain_two (by first | exact plain_agg (by simp only [go_sem]) | rfl) (by first | exact plain_agg (by simp only [go_sem]) | rfl)) | refine ret_full (by first | exact .inr rfl | exact .inl rfl) (by simp) ?_); simp (maxSteps := 1000000) (disch := first | omega | rfl | decide | (simp only [List.length_cons, List.length_nil, List.length_append, Bs_length, Is_length, Vs_length, Bl_length, Il_length] <;> omega)) only [go_sem, Nat.reduceAdd, Int.reduceAdd, Int.reduceSub, Int.reduceMul, Bool.not_true, Bool.not_false, doneF_all]; try rfl)

theorem mmI_ac {m : Nat} (h0 : 256 ≤ m) (h1 : m < 512) (a b : Nat → UInt8) (h : List Blk) : AC Try.prog 174 [.int .i64 m, .agg (Bs 16 a).toArray, .agg (Bs 16 b).toArray] h (.agg (Bs 16 (mmF m a b)).toArray) h := by
  (refine AC_begin (fun _ _ => Try.call174 _ _) Try.func174 rfl Try.ntmps174 Try.results174 (fun hwf => ?_); simp only [List.length_cons, List.length_nil, Nat.reduceAdd, Nat.reduceSub, List.replicate, List.cons_append, List.nil_append])
  (repeat (first | ((first | (refine And.intro ?_ ?_; focus (first | exact plain_agg (by simp only [go_sem]) | exact plain_two (by first | exact plain_agg (by simp only [go_sem]) | rfl) rfl | rfl)) | refine WA_seq (WA_region ?_) | refine WA_region ?_ | refine WA_exit ?_); try simp (maxSteps := 1000000) (disch := first | omega | rfl | decide | (simp only [List.length_cons, List.length_nil, List.length_append, Bs_length, Is_length, Vs_length, Bl_length, Il_length] <;> omega)) only [go_sem, Nat.reduceAdd, Int.reduceAdd, Int.reduceSub, Int.reduceMul, Bool.not_true, Bool.not_false]) | refine WA_seq ?_ | refine WA_block ?_ | (refine WA_skip ?_; try simp only [go_sem]) | (refine WA_ret ?_; try simp only [go_sem]) | refine WA_ct rfl ?_ | refine WA_cf rfl ?_))
  refine WA_forP (fun k => [(8, J), (9, J), (10, J), (12, .int .i64 k), (13, J), (14, J), (15, J), (16, J), (17, J), (18, J), (19, J), (20, J), (21, J), (22, J), (23, J), (24, J), (25, J), (26, J), (27, J), (28, J), (29, J), (30, J), (31, J), (32, J), (33, J), (34, J), (35, J), (36, J), (37, J), (38, J), (39, J), (40, J), (41, J), (42, J), (43, J)]) (fun k => [(3, ⟨Bs 16 (doneF (mmF m a b) (k * 4) 0), true⟩)]) (4) ?_ ?_ ?_ <;> (try simp only [patT_cons, patT_nil, patL_cons, patL_nil, list_set_zero, list_set_succ, blk_set_zero, blk_set_succ])
  · (refine Drop_slots (by first | exact Nat.le_refl _ | simp) ?_; focus ((try simp only [JL_same, JL_J, JL_nil, Int.reduceAdd, Nat.sub_sub, Int.natCast_add, Int.natCast_one, Int.natCast_zero, Int.cast_ofNat_Int, Nat.add_zero, Bool.false_eq_true, if_false, if_true, doneF_start, Nat.zero_mul]); (try exact JL_refl _)))
  · intro i hi
    (repeat (first | ((first | (refine And.intro ?_ ?_; focus (first | exact plain_agg (by simp only [go_sem]) | exact plain_two (by first | exact plain_agg (by simp only [go_sem]) | rfl) rfl | rfl)) | refine WA_seq (WA_region ?_) | refine WA_region ?_ | refine WA_exit ?_); try simp (maxSteps := 1000000) (disch := first | omega | rfl | decide | (simp only [List.length_cons, List.length_nil, List.length_append, Bs_length, Is_length, Vs_length, Bl_length, Il_length] <;> omega)) only [go_sem, Nat.reduceAdd, Int.reduceAdd, Int.reduceSub, Int.reduceMul, Bool.not_true, Bool.not_false]) | refine WA_seq ?_ | refine WA_block ?_ | (refine WA_skip ?_; try simp only [go_sem]) | (refine WA_ret ?_; try simp only [go_sem]) | refine WA_ct rfl ?_ | refine WA_cf rfl ?_))
    refine WA_forP (fun k => [(9, J), (10, J), (15, .int .i64 k), (16, J), (17, J), (18, J), (19, J), (20, J), (21, J), (22, J), (23, J), (24, J), (25, J), (26, J), (27, J), (28, J), (29, J), (30, J), (31, J), (32, J), (33, J), (34, J), (35, J), (36, J), (37, J), (38, J), (39, J), (40, J), (41, J), (42, J)]) (fun k => [(3, ⟨Bs 16 (doneF (mmF m a b) (i * 4 + k) 0), true⟩)]) (4) ?_ ?_ ?_ <;> (try simp only [patT_cons, patT_nil, patL_cons, patL_nil, list_set_zero, list_set_succ, blk_set_zero, blk_set_succ])
    · (refine Drop_slots (by first | exact Nat.le_refl _ | simp) ?_; focus ((try simp only [JL_same, JL_J, JL_nil, Int.reduceAdd, Nat.sub_sub, Int.natCast_add, Int.natCast_one, Int.natCast_zero, Int.cast_ofNat_Int, Nat.add_zero, Bool.false_eq_true, if_false, if_true]); (try exact JL_refl _)))
    · intro j hj
      (repeat (first | ((first | (refine And.intro ?_ ?_; focus (first | exact plain_agg (by simp only [go_sem]) | exact plain_two (by first | exact plain_agg (by simp only [go_sem]) | rfl) rfl | rfl)) | refine WA_seq (WA_region ?_) | refine WA_region ?_ | refine WA_exit ?_); try simp (maxSteps := 1000000) (disch := first | omega | rfl | decide | (simp only [List.length_cons, List.length_nil, List.length_append, Bs_length, Is_length, Vs_length, Bl_length, Il_length] <;> omega)) only [go_sem, Nat.reduceAdd, Int.reduceAdd, Int.reduceSub, Int.reduceMul, Bool.not_true, Bool.not_false]) | refine WA_seq ?_ | refine WA_block ?_ | (refine WA_skip ?_; try simp only [go_sem]) | (refine WA_ret ?_; try simp only [go_sem]) | refine WA_ct rfl ?_ | refine WA_cf rfl ?_))
      refine WA_forP (fun k => [(10, J), (18, .int .i64 k), (19, J), (20, J), (21, J), (22, J), (23, J), (24, J), (25, J), (26, J), (27, J), (28, J), (29, J), (30, J), (31, J), (32, J), (33, J), (34, J), (35, J), (36, J), (37, J), (38, J), (39, J), (40, J), (41, J)]) (fun k => [(3, ⟨Bs 16 (doneF (mmF m a b) (i * 4 + j) (mmP m a b i j k)), true⟩)]) (4) ?_ ?_ ?_ <;> (try simp only [patT_cons, patT_nil, patL_cons, patL_nil, list_set_zero, list_set_succ, blk_set_zero, blk_set_succ])
      · (refine Drop_slots (by first | exact Nat.le_refl _ | simp) ?_; focus ((try simp only [JL_same, JL_J, JL_nil, Int.reduceAdd, Nat.sub_sub, Int.natCast_add, Int.natCast_one, Int.natCast_zero, Int.cast_ofNat_Int, Nat.add_zero, Bool.false_eq_true, if_false, if_true, mmP]); (try exact JL_refl _)))
      · intro q hq
        (repeat (first | ((first | (refine And.intro ?_ ?_; focus (first | exact plain_agg (by simp only [go_sem]) | exact plain_two (by first | exact plain_agg (by simp only [go_sem]) | rfl) rfl | rfl)) | ((first | with_reducible apply callB_i | with_reducible apply callK_intro | with_reducible apply callQ_i); (focus (first | assumption | (with_reducible apply tmI_ac h0 h1 <;> (first | assumption | rfl | (simp (disch := omega) only [go_sem]; first | done | rfl) | omega | decide | (simp; done))))); (try (focus (refine WP.mk ?_ ?_; (focus ((repeat (first | exact trivial | (refine And.intro ?_ ?_; (focus first | exact plainV_wf rfl | (refine plainV_wf (plain_agg ?_); simp only [go_sem]; done) | (simp only [wfV, wf1, wfC, List.length_append, List.length_cons, List.length_nil]; omega))))))); (focus (first | rfl | (refine plain_agg ?_; simp only [go_sem]; done) | (refine plain_two ?_ ?_ <;> first | rfl | (refine plain_agg ?_; simp only [go_sem]; done)))))))) | refine WA_seq (WA_region ?_) | refine WA_region ?_ | refine WA_exit ?_); try simp (maxSteps := 1000000) (disch := first | omega | rfl | decide | (simp only [List.length_cons, List.length_nil, List.length_append, Bs_length, Is_length, Vs_length, Bl_length, Il_length] <;> omega)) only [go_sem, Nat.reduceAdd, Int.reduceAdd, Int.reduceSub, Int.reduceMul, Bool.not_true, Bool.not_false, doneF_at, doneF_set]) | (refine (WA_rb (id := 11) [20] (SubM.refl _) mixedOk ?_); simp only [List.size_toArray, List.length_cons, List.length_nil]; (repeat (first | ((first | (refine And.intro ?_ ?_; focus (first | exact plain_agg (by simp only [go_sem]) | exact plain_two (by first | exact plain_agg (by simp only [go_sem]) | rfl) rfl | rfl)) | ((first | with_reducible apply callB_i | with_reducible apply callK_intro | with_reducible apply callQ_i); (focus (first | assumption | (with_reducible apply tmI_ac h0 h1 <;> (first | assumption | rfl | (simp (disch := omega) only [go_sem]; first | done | rfl) | omega | decide | (simp; done))))); (try (focus (refine WP.mk ?_ ?_; (focus ((repeat (first | exact trivial | (refine And.intro ?_ ?_; (focus first | exact plainV_wf rfl | (refine plainV_wf (plain_agg ?_); simp only [go_sem]; done) | (simp only [wfV, wf1, wfC, List.length_append, List.length_cons, List.length_nil]; omega))))))); (focus (first | rfl | (refine plain_agg ?_; simp only [go_sem]; done) | (refine plain_two ?_ ?_ <;> first | rfl | (refine plain_agg ?_; simp only [go_sem]; done)))))))) | refine RB_take false [0, 1, 2, 3, 5, 6, 7, 8, 9, 11, 12, 13, 14, 18] 7 (by rfl) (by kernel_rfl) (by decide) (by decide +kernel) ?_ | refine RB_take true [4, 10, 15, 16] 3 (by rfl) (by kernel_rfl) (by decide) (by decide +kernel) ?_ | refine RB_take false [17, 19] 1 (by rfl) (by kernel_rfl) (by decide) (by decide +kernel) ?_ | refine RB_exec 20 _ (by rfl) (by decide +kernel) (by decide +kernel) ?_ | refine RB_done (by decide +kernel) ?_); try simp (maxSteps := 1000000) (disch := first | omega | rfl | decide | (simp only [List.length_cons, List.length_nil, List.length_append, Bs_length, Is_length, Vs_length, Bl_length, Il_length] <;> omega)) only [go_sem, Nat.reduceAdd, Int.reduceAdd, Int.reduceSub, Int.reduceMul, Bool.not_true, Bool.not_false, doneF_at, doneF_set])))) | refine WA_seq ?_ | refine WA_block ?_ | (refine WA_skip ?_; try simp only [go_sem]) | (refine WA_ret ?_; try simp only [go_sem]) | refine WA_ct rfl ?_ | refine WA_cf rfl ?_))
        (refine Drop_slots (by first | exact Nat.le_refl _ | simp) ?_; focus ((try simp only [JL_same, JL_J, JL_nil, Int.reduceAdd, Nat.sub_sub, Int.natCast_add, Int.natCast_one, Int.natCast_zero, Int.cast_ofNat_Int, Nat.add_zero, Bool.false_eq_true, if_false, if_true, mmP]); (try exact JL_refl _)))
      · (repeat (first | ((first | (refine And.intro ?_ ?_; focus (first | exact plain_agg (by simp only [go_sem]) | exact plain_two (by first | exact plain_agg (by simp only [go_sem]) | rfl) rfl | rfl)) | refine WA_seq (WA_region ?_) | refine WA_region ?_ | refine WA_exit ?_); try simp (maxSteps := 1000000) (disch := first | omega | rfl | decide | (simp only [List.length_cons, List.length_nil, List.length_append, Bs_length, Is_length, Vs_length, Bl_length, Il_length] <;> omega)) only [go_sem, Nat.reduceAdd, Int.reduceAdd, Int.reduceSub, Int.reduceMul, Bool.not_true, Bool.not_false]) | refine WA_seq ?_ | refine WA_block ?_ | (refine WA_skip ?_; try simp only [go_sem]) | (refine WA_ret ?_; try simp only [go_sem]) | refine WA_ct rfl ?_ | refine WA_cf rfl ?_))
        rw [doneF_next (mmF_at hj)]
        (refine Drop_slots (by first | exact Nat.le_refl _ | simp) ?_; focus ((try simp only [JL_same, JL_J, JL_nil, Int.reduceAdd, Nat.sub_sub, Int.natCast_add, Int.natCast_one, Int.natCast_zero, Int.cast_ofNat_Int, Nat.add_zero, Bool.false_eq_true, if_false, if_true]); (try exact JL_refl _)))
    · (repeat (first | ((first | (refine And.intro ?_ ?_; focus (first | exact plain_agg (by simp only [go_sem]) | exact plain_two (by first | exact plain_agg (by simp only [go_sem]) | rfl) rfl | rfl)) | refine WA_seq (WA_region ?_) | refine WA_region ?_ | refine WA_exit ?_); try simp (maxSteps := 1000000) (disch := first | omega | rfl | decide | (simp only [List.length_cons, List.length_nil, List.length_append, Bs_length, Is_length, Vs_length, Bl_length, Il_length] <;> omega)) only [go_sem, Nat.reduceAdd, Int.reduceAdd, Int.reduceSub, Int.reduceMul, Bool.not_true, Bool.not_false]) | refine WA_seq ?_ | refine WA_block ?_ | (refine WA_skip ?_; try simp only [go_sem]) | (refine WA_ret ?_; try simp only [go_sem]) | refine WA_ct rfl ?_ | refine WA_cf rfl ?_))
      rw [show (i + 1) * 4 = i * 4 + 4 by omega]
      (refine Drop_slots (by first | exact Nat.le_refl _ | simp) ?_; focus ((try simp only [JL_same, JL_J, JL_nil, Int.reduceAdd, Nat.sub_sub, Int.natCast_add, Int.natCast_one, Int.natCast_zero, Int.cast_ofNat_Int, Nat.add_zero, Bool.false_eq_true, if_false, if_true]); (try exact JL_refl _)))
  · (repeat (first | ((first | (refine And.intro ?_ ?_; focus (first | exact plain_agg (by simp only [go_sem]) | exact plain_two (by first | exact plain_agg (by simp only [go_sem]) | rfl) rfl | rfl)) | refine WA_seq (WA_region ?_) | refine WA_region ?_ | refine WA_exit ?_); try simp (maxSteps := 1000000) (disch := first | omega | rfl | decide | (simp only [List.length_cons, List.length_nil, List.length_append, Bs_length, Is_length, Vs_length, Bl_length, Il_length] <;> omega)) only [go_sem, Nat.reduceAdd, Int.reduceAdd, Int.reduceSub, Int.reduceMul, Bool.not_true, Bool.not_false]) | refine WA_seq ?_ | refine WA_block ?_ | (refine WA_skip ?_; try simp only [go_sem]) | (refine WA_ret ?_; try simp only [go_sem]) | refine WA_ct rfl ?_ | refine WA_cf rfl ?_))
    ((first | refine ret_none (by first | exact .inr rfl | exact .inl rfl) ?_ | refine ret_same (by first | exact .inr rfl | exact .inl rfl) ?_ (by first | rfl | exact plain_agg (by simp only [go_sem]) | exact plain_two (by first | exact plain_agg (by simp only [go_sem]) | rfl) (by first | exact plain_agg (by simp only [go_sem]) | rfl)) | refine ret_full (by first | exact .inr rfl | exact .inl rfl) (by simp) ?_); simp (maxSteps := 1000000) (disch := first | omega | rfl | decide | (simp only [List.length_cons, List.length_nil, List.length_append, Bs_length, Is_length, Vs_length, Bl_length, Il_length] <;> omega)) only [go_sem, Nat.reduceAdd, Int.reduceAdd, Int.reduceSub, Int.reduceMul, Bool.not_true, Bool.not_false, doneF_all]; try rfl)

/-- The powers of a matrix; the order is the first k + 1 whose power is the unit. -/
def mpF (m : Nat) (a : Nat → UInt8) : Nat → Nat → UInt8
  | 0 => a
  | k + 1 => mmF m (mpF m a k) a
def isU (m : Nat) (a : Nat → UInt8) (k : Nat) : Bool := eqB 16 (mpF m a k) unitF
def ordF (m : Nat) (a : Nat → UInt8) : Nat → Nat → Option Nat
  | 0, _ => none
  | f + 1, k => if isU m a k then some (k + 1) else ordF m a f (k + 1)
def ordM (m : Int) (a : Nat → UInt8) : Int := cond (fieldB m.toNat && detF m.toNat a != 0) (((ordF m.toNat a 2000 0).getD 0 : Nat) : Int) 0
def ordC (m : Int) (a : Nat → UInt8) : Int := cond (fieldB m.toNat) (cond (detF m.toNat a != 0) (cond (ordF m.toNat a 2000 0).isSome 0 3) 5) 1
theorem ordF_go {m : Nat} {a : Nat → UInt8} : ∀ (k f s : Nat), (∀ i, i < k → isU m a (s + i) = false) → ordF m a (k + f) s = ordF m a f (s + k)
  | 0, f, s, _ => by rw [Nat.zero_add, Nat.add_zero]
  | k + 1, f, s, h => by
    rw [show k + 1 + f = (k + f) + 1 by omega, ordF, show isU m a s = false from h 0 (by omega)]
    show ordF m a (k + f) (s + 1) = _
    rw [ordF_go k f (s + 1) (fun i hi => by rw [show s + 1 + i = s + (i + 1) by omega]; exact h (i + 1) (by omega)), show s + 1 + k = s + (k + 1) by omega]
theorem ordF_hit {m : Nat} {a : Nat → UInt8} {k n : Nat} (hk : k < n) (h : ∀ i, i < k → isU m a i = false) (hu : isU m a k = true) : ordF m a n 0 = some (k + 1) := by
  rw [show n = k + (n - k - 1 + 1) by omega, ordF_go k _ 0 (fun i hi => by rw [Nat.zero_add]; exact h i hi), Nat.zero_add, ordF, if_pos hu]
theorem ordF_miss {m : Nat} {a : Nat → UInt8} {n : Nat} (h : ∀ i, i < n → isU m a i = false) : ordF m a n 0 = none := by
  rw [show n = n + 0 by omega, ordF_go n 0 0 (fun i hi => by rw [Nat.zero_add]; exact h i hi)]; rfl
theorem isU_next {m : Nat} {a : Nat → UInt8} {k : Nat} (h : ∀ i, i < k → isU m a i = false) (hu : isU m a k = false) : ∀ i, i < k + 1 → isU m a i = false := fun i hi => by
  rcases Nat.lt_or_ge i k with h1 | h1
  · exact h i h1
  · rw [show i = k by omega]; exact hu
theorem ormS_ac (m : Int) (a : Nat → UInt8) (h : List Blk) : AC Try.prog 88 [.int .i64 m, .agg (Bs 16 a).toArray] h (.tuple #[.int .i64 (ordM m a), .int .i64 (ordC m a)]) h := by
  cases hf : fieldB m.toNat
  · (refine AC_begin (fun _ _ => Try.call88 _ _) Try.func88 rfl Try.ntmps88 Try.results88 (fun hwf => ?_); simp only [List.length_cons, List.length_nil, Nat.reduceAdd, Nat.reduceSub, List.replicate, List.cons_append, List.nil_append])
    (repeat (first | ((first | (refine And.intro ?_ ?_; focus (first | exact plain_agg (by simp only [go_sem]) | exact plain_two (by first | exact plain_agg (by simp only [go_sem]) | rfl) rfl | rfl)) | ((first | with_reducible apply callB_i | with_reducible apply callK_intro | with_reducible apply callQ_i); (focus (first | assumption | (with_reducible apply fieldS_ac <;> (first | assumption | rfl | (simp (disch := omega) only [go_sem]; first | done | rfl) | omega | decide | (simp; done))))); (try (focus (refine WP.mk ?_ ?_; (focus ((repeat (first | exact trivial | (refine And.intro ?_ ?_; (focus first | exact plainV_wf rfl | (refine plainV_wf (plain_agg ?_); simp only [go_sem]; done) | (simp only [wfV, wf1, wfC, List.length_append, List.length_cons, List.length_nil]; omega))))))); (focus (first | rfl | (refine plain_agg ?_; simp only [go_sem]; done) | (refine plain_two ?_ ?_ <;> first | rfl | (refine plain_agg ?_; simp only [go_sem]; done)))))))) | refine WA_seq (WA_region ?_) | refine WA_region ?_ | refine WA_exit ?_); try simp (maxSteps := 1000000) (disch := first | omega | rfl | decide | (simp only [List.length_cons, List.length_nil, List.length_append, Bs_length, Is_length, Vs_length, Bl_length, Il_length] <;> omega)) only [go_sem, Nat.reduceAdd, Int.reduceAdd, Int.reduceSub, Int.reduceMul, Bool.not_true, Bool.not_false, hf, Bool.not_false]) | refine WA_seq ?_ | refine WA_block ?_ | (refine WA_skip ?_; try simp only [go_sem]) | (refine WA_ret ?_; try simp only [go_sem]) | refine WA_ct rfl ?_ | refine WA_cf rfl ?_))
    ((first | refine ret_none (by first | exact .inr rfl | exact .inl rfl) ?_ | refine ret_same (by first | exact .inr rfl | exact .inl rfl) ?_ (by first | rfl | exact plain_agg (by simp only [go_sem]) | exact plain_two (by first | exact plain_agg (by simp only [go_sem]) | rfl) (by first | exact plain_agg (by simp only [go_sem]) | rfl)) | refine ret_full (by first | exact .inr rfl | exact .inl rfl) (by simp) ?_); simp (maxSteps := 1000000) (disch := first | omega | rfl | decide | (simp only [List.length_cons, List.length_nil, List.length_append, Bs_length, Is_length, Vs_length, Bl_length, Il_length] <;> omega)) only [go_sem, Nat.reduceAdd, Int.reduceAdd, Int.reduceSub, Int.reduceMul, Bool.not_true, Bool.not_false, ordM, ordC, hf, Bool.false_and, cond_false]; try rfl)
  · obtain ⟨p, rfl, hp, h0, h1⟩ := fieldB_nat hf
    cases hd : detF p a != 0
    · (refine AC_begin (fun _ _ => Try.call88 _ _) Try.func88 rfl Try.ntmps88 Try.results88 (fun hwf => ?_); simp only [List.length_cons, List.length_nil, Nat.reduceAdd, Nat.reduceSub, List.replicate, List.cons_append, List.nil_append])
      (repeat (first | ((first | (refine And.intro ?_ ?_; focus (first | exact plain_agg (by simp only [go_sem]) | exact plain_two (by first | exact plain_agg (by simp only [go_sem]) | rfl) rfl | rfl)) | ((first | with_reducible apply callB_i | with_reducible apply callK_intro | with_reducible apply callQ_i); (focus (first | assumption | ((first | with_reducible apply fieldS_ac | with_reducible apply isInvS_ac h0 h1) <;> (first | assumption | rfl | (simp (disch := omega) only [go_sem]; first | done | rfl) | omega | decide | (simp; done))))); (try (focus (refine WP.mk ?_ ?_; (focus ((repeat (first | exact trivial | (refine And.intro ?_ ?_; (focus first | exact plainV_wf rfl | (refine plainV_wf (plain_agg ?_); simp only [go_sem]; done) | (simp only [wfV, wf1, wfC, List.length_append, List.length_cons, List.length_nil]; omega))))))); (focus (first | rfl | (refine plain_agg ?_; simp only [go_sem]; done) | (refine plain_two ?_ ?_ <;> first | rfl | (refine plain_agg ?_; simp only [go_sem]; done)))))))) | refine WA_seq (WA_region ?_) | refine WA_region ?_ | refine WA_exit ?_); try simp (maxSteps := 1000000) (disch := first | omega | rfl | decide | (simp only [List.length_cons, List.length_nil, List.length_append, Bs_length, Is_length, Vs_length, Bl_length, Il_length] <;> omega)) only [go_sem, Nat.reduceAdd, Int.reduceAdd, Int.reduceSub, Int.reduceMul, Bool.not_true, Bool.not_false, hp, hd, Bool.not_false, Bool.not_true]) | refine WA_seq ?_ | refine WA_block ?_ | (refine WA_skip ?_; try simp only [go_sem]) | (refine WA_ret ?_; try simp only [go_sem]) | refine WA_ct rfl ?_ | refine WA_cf rfl ?_))
      ((first | refine ret_none (by first | exact .inr rfl | exact .inl rfl) ?_ | refine ret_same (by first | exact .inr rfl | exact .inl rfl) ?_ (by first | rfl | exact plain_agg (by simp only [go_sem]) | exact plain_two (by first | exact plain_agg (by simp only [go_sem]) | rfl) (by first | exact plain_agg (by simp only [go_sem]) | rfl)) | refine ret_full (by first | exact .inr rfl | exact .inl rfl) (by simp) ?_); simp (maxSteps := 1000000) (disch := first | omega | rfl | decide | (simp only [List.length_cons, List.length_nil, List.length_append, Bs_length, Is_length, Vs_length, Bl_length, Il_length] <;> omega)) only [go_sem, Nat.reduceAdd, Int.reduceAdd, Int.reduceSub, Int.reduceMul, Bool.not_true, Bool.not_false, ordM, ordC, Int.toNat_natCast, hp, hd, Bool.and_false, cond_false, cond_true]; try rfl)
    · (refine AC_begin (fun _ _ => Try.call88 _ _) Try.func88 rfl Try.ntmps88 Try.results88 (fun hwf => ?_); simp only [List.length_cons, List.length_nil, Nat.reduceAdd, Nat.reduceSub, List.replicate, List.cons_append, List.nil_append])
      (repeat (first | ((first | (refine And.intro ?_ ?_; focus (first | exact plain_agg (by simp only [go_sem]) | exact plain_two (by first | exact plain_agg (by simp only [go_sem]) | rfl) rfl | rfl)) | ((first | with_reducible apply callB_i | with_reducible apply callK_intro | with_reducible apply callQ_i); (focus (first | assumption | ((first | with_reducible apply fieldS_ac | with_reducible apply isInvS_ac h0 h1) <;> (first | assumption | rfl | (simp (disch := omega) only [go_sem]; first | done | rfl) | omega | decide | (simp; done))))); (try (focus (refine WP.mk ?_ ?_; (focus ((repeat (first | exact trivial | (refine And.intro ?_ ?_; (focus first | exact plainV_wf rfl | (refine plainV_wf (plain_agg ?_); simp only [go_sem]; done) | (simp only [wfV, wf1, wfC, List.length_append, List.length_cons, List.length_nil]; omega))))))); (focus (first | rfl | (refine plain_agg ?_; simp only [go_sem]; done) | (refine plain_two ?_ ?_ <;> first | rfl | (refine plain_agg ?_; simp only [go_sem]; done)))))))) | refine WA_seq (WA_region ?_) | refine WA_region ?_ | refine WA_exit ?_); try simp (maxSteps := 1000000) (disch := first | omega | rfl | decide | (simp only [List.length_cons, List.length_nil, List.length_append, Bs_length, Is_length, Vs_length, Bl_length, Il_length] <;> omega)) only [go_sem, Nat.reduceAdd, Int.reduceAdd, Int.reduceSub, Int.reduceMul, Bool.not_true, Bool.not_false, hp, hd, Bool.not_false, Bool.not_true]) | refine WA_seq ?_ | refine WA_block ?_ | (refine WA_skip ?_; try simp only [go_sem]) | (refine WA_ret ?_; try simp only [go_sem]) | refine WA_ct rfl ?_ | refine WA_cf rfl ?_))
      refine WA_forPJ (fun k => ∀ i, i < k → isU p a i = false) (fun k => [(4, J), (5, J), (7, .int .i64 ((k + 1 : Nat) : Int)), (18, J), (19, J), (20, J), (21, J), (22, J), (23, J), (24, J), (25, J), (26, J), (27, J), (28, J), (29, J)]) (fun k => [(1, ⟨Bs 16 (mpF p a k), true⟩)]) (2000) ?_ ?_ ?_ ?_ <;> (try simp only [patT_cons, patT_nil, patL_cons, patL_nil, list_set_zero, list_set_succ, blk_set_zero, blk_set_succ])
      · exact fun i hi => absurd hi (by omega)
      · rw [show mpF p a 0 = a from rfl]
        (refine Drop_slots (by first | exact Nat.le_refl _ | simp) ?_; focus ((try simp only [JL_same, JL_J, JL_nil, Int.reduceAdd, Nat.sub_sub, Int.natCast_add, Int.natCast_one, Int.natCast_zero, Int.cast_ofNat_Int, Nat.add_zero, Bool.false_eq_true, if_false, if_true]); (try exact JL_refl _)))
      · intro q hq hJ
        cases hu : isU p a q
        · (repeat (first | ((first | (refine And.intro ?_ ?_; focus (first | exact plain_agg (by simp only [go_sem]) | exact plain_two (by first | exact plain_agg (by simp only [go_sem]) | rfl) rfl | rfl)) | ((first | with_reducible apply callB_i | with_reducible apply callK_intro | with_reducible apply callQ_i); (focus (first | assumption | ((first | with_reducible apply unitS_ac | with_reducible apply mmS_ac h0 h1) <;> (first | assumption | rfl | (simp (disch := omega) only [go_sem]; first | done | rfl) | omega | decide | (simp; done))))); (try (focus (refine WP.mk ?_ ?_; (focus ((repeat (first | exact trivial | (refine And.intro ?_ ?_; (focus first | exact plainV_wf rfl | (refine plainV_wf (plain_agg ?_); simp only [go_sem]; done) | (simp only [wfV, wf1, wfC, List.length_append, List.length_cons, List.length_nil]; omega))))))); (focus (first | rfl | (refine plain_agg ?_; simp only [go_sem]; done) | (refine plain_two ?_ ?_ <;> first | rfl | (refine plain_agg ?_; simp only [go_sem]; done)))))))) | refine WA_seq (WA_region ?_) | refine WA_region ?_ | refine WA_exit ?_); try simp (maxSteps := 1000000) (disch := first | omega | rfl | decide | (simp only [List.length_cons, List.length_nil, List.length_append, Bs_length, Is_length, Vs_length, Bl_length, Il_length] <;> omega)) only [go_sem, Nat.reduceAdd, Int.reduceAdd, Int.reduceSub, Int.reduceMul, Bool.not_true, Bool.not_false, show eqB 16 (mpF p a q) unitF = false from hu, show mmF p (mpF p a q) a = mpF p a (q + 1) from rfl]) | (refine WA_seq (WA_draw (id := 9) mixedOk (by kernel_rfl) ?_); simp (maxSteps := 1000000) (disch := first | omega | rfl | decide | (simp only [List.length_cons, List.length_nil, List.length_append, Bs_length, Is_length, Vs_length, Bl_length, Il_length] <;> omega)) only [go_sem, Nat.reduceAdd, Int.reduceAdd, Int.reduceSub, Int.reduceMul, Bool.not_true, Bool.not_false, show eqB 16 (mpF p a q) unitF = false from hu, show mmF p (mpF p a q) a = mpF p a (q + 1) from rfl]) | (refine WA_draw (id := 9) mixedOk (by kernel_rfl) ?_; simp (maxSteps := 1000000) (disch := first | omega | rfl | decide | (simp only [List.length_cons, List.length_nil, List.length_append, Bs_length, Is_length, Vs_length, Bl_length, Il_length] <;> omega)) only [go_sem, Nat.reduceAdd, Int.reduceAdd, Int.reduceSub, Int.reduceMul, Bool.not_true, Bool.not_false, show eqB 16 (mpF p a q) unitF = false from hu, show mmF p (mpF p a q) a = mpF p a (q + 1) from rfl]) | refine WA_seq ?_ | refine WA_block ?_ | (refine WA_skip ?_; try simp only [go_sem]) | (refine WA_ret ?_; try simp only [go_sem]) | refine WA_ct rfl ?_ | refine WA_cf rfl ?_))
          refine ⟨isU_next hJ hu, ?_⟩
          (refine Drop_slots (by first | exact Nat.le_refl _ | simp) ?_; focus ((try simp only [JL_same, JL_J, JL_nil, Int.reduceAdd, Nat.sub_sub, Int.natCast_add, Int.natCast_one, Int.natCast_zero, Int.cast_ofNat_Int, Nat.add_zero, Bool.false_eq_true, if_false, if_true]); (try exact JL_refl _)))
        · (repeat (first | ((first | (refine And.intro ?_ ?_; focus (first | exact plain_agg (by simp only [go_sem]) | exact plain_two (by first | exact plain_agg (by simp only [go_sem]) | rfl) rfl | rfl)) | ((first | with_reducible apply callB_i | with_reducible apply callK_intro | with_reducible apply callQ_i); (focus (first | assumption | (with_reducible apply unitS_ac <;> (first | assumption | rfl | (simp (disch := omega) only [go_sem]; first | done | rfl) | omega | decide | (simp; done))))); (try (focus (refine WP.mk ?_ ?_; (focus ((repeat (first | exact trivial | (refine And.intro ?_ ?_; (focus first | exact plainV_wf rfl | (refine plainV_wf (plain_agg ?_); simp only [go_sem]; done) | (simp only [wfV, wf1, wfC, List.length_append, List.length_cons, List.length_nil]; omega))))))); (focus (first | rfl | (refine plain_agg ?_; simp only [go_sem]; done) | (refine plain_two ?_ ?_ <;> first | rfl | (refine plain_agg ?_; simp only [go_sem]; done)))))))) | refine WA_seq (WA_region ?_) | refine WA_region ?_ | refine WA_exit ?_); try simp (maxSteps := 1000000) (disch := first | omega | rfl | decide | (simp only [List.length_cons, List.length_nil, List.length_append, Bs_length, Is_length, Vs_length, Bl_length, Il_length] <;> omega)) only [go_sem, Nat.reduceAdd, Int.reduceAdd, Int.reduceSub, Int.reduceMul, Bool.not_true, Bool.not_false, show eqB 16 (mpF p a q) unitF = true from hu]) | (refine WA_seq (WA_draw (id := 9) mixedOk (by kernel_rfl) ?_); simp (maxSteps := 1000000) (disch := first | omega | rfl | decide | (simp only [List.length_cons, List.length_nil, List.length_append, Bs_length, Is_length, Vs_length, Bl_length, Il_length] <;> omega)) only [go_sem, Nat.reduceAdd, Int.reduceAdd, Int.reduceSub, Int.reduceMul, Bool.not_true, Bool.not_false, show eqB 16 (mpF p a q) unitF = true from hu]) | (refine WA_draw (id := 9) mixedOk (by kernel_rfl) ?_; simp (maxSteps := 1000000) (disch := first | omega | rfl | decide | (simp only [List.length_cons, List.length_nil, List.length_append, Bs_length, Is_length, Vs_length, Bl_length, Il_length] <;> omega)) only [go_sem, Nat.reduceAdd, Int.reduceAdd, Int.reduceSub, Int.reduceMul, Bool.not_true, Bool.not_false, show eqB 16 (mpF p a q) unitF = true from hu]) | refine WA_seq ?_ | refine WA_block ?_ | (refine WA_skip ?_; try simp only [go_sem]) | (refine WA_ret ?_; try simp only [go_sem]) | refine WA_ct rfl ?_ | refine WA_cf rfl ?_))
          ((first | refine ret_none (by first | exact .inr rfl | exact .inl rfl) ?_ | refine ret_same (by first | exact .inr rfl | exact .inl rfl) ?_ (by first | rfl | exact plain_agg (by simp only [go_sem]) | exact plain_two (by first | exact plain_agg (by simp only [go_sem]) | rfl) (by first | exact plain_agg (by simp only [go_sem]) | rfl)) | refine ret_full (by first | exact .inr rfl | exact .inl rfl) (by simp) ?_); simp (maxSteps := 1000000) (disch := first | omega | rfl | decide | (simp only [List.length_cons, List.length_nil, List.length_append, Bs_length, Is_length, Vs_length, Bl_length, Il_length] <;> omega)) only [go_sem, Nat.reduceAdd, Int.reduceAdd, Int.reduceSub, Int.reduceMul, Bool.not_true, Bool.not_false, ordM, ordC, Int.toNat_natCast, hp, hd, Bool.and_self, cond_true, ordF_hit hq hJ hu, Option.getD_some, Option.isSome_some]; try rfl)
      · intro hJ
        (repeat (first | ((first | (refine And.intro ?_ ?_; focus (first | exact plain_agg (by simp only [go_sem]) | exact plain_two (by first | exact plain_agg (by simp only [go_sem]) | rfl) rfl | rfl)) | refine WA_seq (WA_region ?_) | refine WA_region ?_ | refine WA_exit ?_); try simp (maxSteps := 1000000) (disch := first | omega | rfl | decide | (simp only [List.length_cons, List.length_nil, List.length_append, Bs_length, Is_length, Vs_length, Bl_length, Il_length] <;> omega)) only [go_sem, Nat.reduceAdd, Int.reduceAdd, Int.reduceSub, Int.reduceMul, Bool.not_true, Bool.not_false]) | refine WA_seq ?_ | refine WA_block ?_ | (refine WA_skip ?_; try simp only [go_sem]) | (refine WA_ret ?_; try simp only [go_sem]) | refine WA_ct rfl ?_ | refine WA_cf rfl ?_))
        ((first | refine ret_none (by first | exact .inr rfl | exact .inl rfl) ?_ | refine ret_same (by first | exact .inr rfl | exact .inl rfl) ?_ (by first | rfl | exact plain_agg (by simp only [go_sem]) | exact plain_two (by first | exact plain_agg (by simp only [go_sem]) | rfl) (by first | exact plain_agg (by simp only [go_sem]) | rfl)) | refine ret_full (by first | exact .inr rfl | exact .inl rfl) (by simp) ?_); simp (maxSteps := 1000000) (disch := first | omega | rfl | decide | (simp only [List.length_cons, List.length_nil, List.length_append, Bs_length, Is_length, Vs_length, Bl_length, Il_length] <;> omega)) only [go_sem, Nat.reduceAdd, Int.reduceAdd, Int.reduceSub, Int.reduceMul, Bool.not_true, Bool.not_false, ordM, ordC, Int.toNat_natCast, hp, hd, Bool.and_self, cond_true, cond_false, ordF_miss hJ, Option.getD_none, Option.isSome_none]; try rfl)

theorem ormI_ac (m : Int) (a : Nat → UInt8) (h : List Blk) : AC Try.prog 87 [.int .i64 m, .agg (Bs 16 a).toArray] h (.tuple #[.int .i64 (ordM m a), .int .i64 (ordC m a)]) h := by
  have hi := invMI_ac m a
  cases hf : fieldB m.toNat
  · rw [show invMC m a = 1 by unfold invMC; rw [hf]; rfl] at hi
    (refine AC_begin (fun _ _ => Try.call87 _ _) Try.func87 rfl Try.ntmps87 Try.results87 (fun hwf => ?_); simp only [List.length_cons, List.length_nil, Nat.reduceAdd, Nat.reduceSub, List.replicate, List.cons_append, List.nil_append])
    (repeat (first | ((first | (refine And.intro ?_ ?_; focus (first | exact plain_agg (by simp only [go_sem]) | exact plain_two (by first | exact plain_agg (by simp only [go_sem]) | rfl) rfl | rfl)) | ((first | with_reducible apply callB_i | with_reducible apply callK_intro | with_reducible apply callQ_i); (focus (first | assumption | (with_reducible apply hi <;> (first | assumption | rfl | (simp (disch := omega) only [go_sem]; first | done | rfl) | omega | decide | (simp; done))))); (try (focus (refine WP.mk ?_ ?_; (focus ((repeat (first | exact trivial | (refine And.intro ?_ ?_; (focus first | exact plainV_wf rfl | (refine plainV_wf (plain_agg ?_); simp only [go_sem]; done) | (simp only [wfV, wf1, wfC, List.length_append, List.length_cons, List.length_nil]; omega))))))); (focus (first | rfl | (refine plain_agg ?_; simp only [go_sem]; done) | (refine plain_two ?_ ?_ <;> first | rfl | (refine plain_agg ?_; simp only [go_sem]; done)))))))) | refine WA_seq (WA_region ?_) | refine WA_region ?_ | refine WA_exit ?_); try simp (maxSteps := 1000000) (disch := first | omega | rfl | decide | (simp only [List.length_cons, List.length_nil, List.length_append, Bs_length, Is_length, Vs_length, Bl_length, Il_length] <;> omega)) only [go_sem, Nat.reduceAdd, Int.reduceAdd, Int.reduceSub, Int.reduceMul, Bool.not_true, Bool.not_false, bne_self_eq_false]) | refine WA_seq ?_ | refine WA_block ?_ | (refine WA_skip ?_; try simp only [go_sem]) | (refine WA_ret ?_; try simp only [go_sem]) | refine WA_ct rfl ?_ | refine WA_cf rfl ?_))
    ((first | refine ret_none (by first | exact .inr rfl | exact .inl rfl) ?_ | refine ret_same (by first | exact .inr rfl | exact .inl rfl) ?_ (by first | rfl | exact plain_agg (by simp only [go_sem]) | exact plain_two (by first | exact plain_agg (by simp only [go_sem]) | rfl) (by first | exact plain_agg (by simp only [go_sem]) | rfl)) | refine ret_full (by first | exact .inr rfl | exact .inl rfl) (by simp) ?_); simp (maxSteps := 1000000) (disch := first | omega | rfl | decide | (simp only [List.length_cons, List.length_nil, List.length_append, Bs_length, Is_length, Vs_length, Bl_length, Il_length] <;> omega)) only [go_sem, Nat.reduceAdd, Int.reduceAdd, Int.reduceSub, Int.reduceMul, Bool.not_true, Bool.not_false, ordM, ordC, hf, Bool.false_and, cond_false]; try rfl)
  · obtain ⟨p, rfl, hp, h0, h1⟩ := fieldB_nat hf
    cases hd : detF p a != 0
    · rw [show invMC (p : Int) a = 5 by unfold invMC; rw [Int.toNat_natCast, hp, hd]; rfl] at hi
      (refine AC_begin (fun _ _ => Try.call87 _ _) Try.func87 rfl Try.ntmps87 Try.results87 (fun hwf => ?_); simp only [List.length_cons, List.length_nil, Nat.reduceAdd, Nat.reduceSub, List.replicate, List.cons_append, List.nil_append])
      (repeat (first | ((first | (refine And.intro ?_ ?_; focus (first | exact plain_agg (by simp only [go_sem]) | exact plain_two (by first | exact plain_agg (by simp only [go_sem]) | rfl) rfl | rfl)) | ((first | with_reducible apply callB_i | with_reducible apply callK_intro | with_reducible apply callQ_i); (focus (first | assumption | (with_reducible apply hi <;> (first | assumption | rfl | (simp (disch := omega) only [go_sem]; first | done | rfl) | omega | decide | (simp; done))))); (try (focus (refine WP.mk ?_ ?_; (focus ((repeat (first | exact trivial | (refine And.intro ?_ ?_; (focus first | exact plainV_wf rfl | (refine plainV_wf (plain_agg ?_); simp only [go_sem]; done) | (simp only [wfV, wf1, wfC, List.length_append, List.length_cons, List.length_nil]; omega))))))); (focus (first | rfl | (refine plain_agg ?_; simp only [go_sem]; done) | (refine plain_two ?_ ?_ <;> first | rfl | (refine plain_agg ?_; simp only [go_sem]; done)))))))) | refine WA_seq (WA_region ?_) | refine WA_region ?_ | refine WA_exit ?_); try simp (maxSteps := 1000000) (disch := first | omega | rfl | decide | (simp only [List.length_cons, List.length_nil, List.length_append, Bs_length, Is_length, Vs_length, Bl_length, Il_length] <;> omega)) only [go_sem, Nat.reduceAdd, Int.reduceAdd, Int.reduceSub, Int.reduceMul, Bool.not_true, Bool.not_false]) | refine WA_seq ?_ | refine WA_block ?_ | (refine WA_skip ?_; try simp only [go_sem]) | (refine WA_ret ?_; try simp only [go_sem]) | refine WA_ct rfl ?_ | refine WA_cf rfl ?_))
      ((first | refine ret_none (by first | exact .inr rfl | exact .inl rfl) ?_ | refine ret_same (by first | exact .inr rfl | exact .inl rfl) ?_ (by first | rfl | exact plain_agg (by simp only [go_sem]) | exact plain_two (by first | exact plain_agg (by simp only [go_sem]) | rfl) (by first | exact plain_agg (by simp only [go_sem]) | rfl)) | refine ret_full (by first | exact .inr rfl | exact .inl rfl) (by simp) ?_); simp (maxSteps := 1000000) (disch := first | omega | rfl | decide | (simp only [List.length_cons, List.length_nil, List.length_append, Bs_length, Is_length, Vs_length, Bl_length, Il_length] <;> omega)) only [go_sem, Nat.reduceAdd, Int.reduceAdd, Int.reduceSub, Int.reduceMul, Bool.not_true, Bool.not_false, ordM, ordC, Int.toNat_natCast, hp, hd, Bool.and_false, cond_false, cond_true]; try rfl)
    · rw [show invMC (p : Int) a = 0 by unfold invMC; rw [Int.toNat_natCast, hp, hd]; rfl] at hi
      (refine AC_begin (fun _ _ => Try.call87 _ _) Try.func87 rfl Try.ntmps87 Try.results87 (fun hwf => ?_); simp only [List.length_cons, List.length_nil, Nat.reduceAdd, Nat.reduceSub, List.replicate, List.cons_append, List.nil_append])
      (repeat (first | ((first | (refine And.intro ?_ ?_; focus (first | exact plain_agg (by simp only [go_sem]) | exact plain_two (by first | exact plain_agg (by simp only [go_sem]) | rfl) rfl | rfl)) | ((first | with_reducible apply callB_i | with_reducible apply callK_intro | with_reducible apply callQ_i); (focus (first | assumption | (with_reducible apply hi <;> (first | assumption | rfl | (simp (disch := omega) only [go_sem]; first | done | rfl) | omega | decide | (simp; done))))); (try (focus (refine WP.mk ?_ ?_; (focus ((repeat (first | exact trivial | (refine And.intro ?_ ?_; (focus first | exact plainV_wf rfl | (refine plainV_wf (plain_agg ?_); simp only [go_sem]; done) | (simp only [wfV, wf1, wfC, List.length_append, List.length_cons, List.length_nil]; omega))))))); (focus (first | rfl | (refine plain_agg ?_; simp only [go_sem]; done) | (refine plain_two ?_ ?_ <;> first | rfl | (refine plain_agg ?_; simp only [go_sem]; done)))))))) | refine WA_seq (WA_region ?_) | refine WA_region ?_ | refine WA_exit ?_); try simp (maxSteps := 1000000) (disch := first | omega | rfl | decide | (simp only [List.length_cons, List.length_nil, List.length_append, Bs_length, Is_length, Vs_length, Bl_length, Il_length] <;> omega)) only [go_sem, Nat.reduceAdd, Int.reduceAdd, Int.reduceSub, Int.reduceMul, Bool.not_true, Bool.not_false, bne_self_eq_false]) | refine WA_seq ?_ | refine WA_block ?_ | (refine WA_skip ?_; try simp only [go_sem]) | (refine WA_ret ?_; try simp only [go_sem]) | refine WA_ct rfl ?_ | refine WA_cf rfl ?_))
      refine WA_forPJ (fun k => ∀ i, i < k → isU p a i = false) (fun k => [(4, J), (5, J), (9, .int .i64 ((k + 1 : Nat) : Int)), (20, J), (21, J), (22, J), (23, J), (24, J), (25, J), (26, J), (27, J), (28, J), (29, J), (30, J), (31, J)]) (fun k => [(2, ⟨Bs 16 (mpF p a k), true⟩)]) (2000) ?_ ?_ ?_ ?_ <;> (try simp only [patT_cons, patT_nil, patL_cons, patL_nil, list_set_zero, list_set_succ, blk_set_zero, blk_set_succ])
      · exact fun i hi => absurd hi (by omega)
      · rw [show mpF p a 0 = a from rfl]
        (refine Drop_slots (by first | exact Nat.le_refl _ | simp) ?_; focus ((try simp only [JL_same, JL_J, JL_nil, Int.reduceAdd, Nat.sub_sub, Int.natCast_add, Int.natCast_one, Int.natCast_zero, Int.cast_ofNat_Int, Nat.add_zero, Bool.false_eq_true, if_false, if_true]); (try exact JL_refl _)))
      · intro q hq hJ
        cases hu : isU p a q
        · (repeat (first | ((first | (refine And.intro ?_ ?_; focus (first | exact plain_agg (by simp only [go_sem]) | exact plain_two (by first | exact plain_agg (by simp only [go_sem]) | rfl) rfl | rfl)) | ((first | with_reducible apply callB_i | with_reducible apply callK_intro | with_reducible apply callQ_i); (focus (first | assumption | ((first | with_reducible apply unitI_ac | with_reducible apply mmI_ac h0 h1) <;> (first | assumption | rfl | (simp (disch := omega) only [go_sem]; first | done | rfl) | omega | decide | (simp; done))))); (try (focus (refine WP.mk ?_ ?_; (focus ((repeat (first | exact trivial | (refine And.intro ?_ ?_; (focus first | exact plainV_wf rfl | (refine plainV_wf (plain_agg ?_); simp only [go_sem]; done) | (simp only [wfV, wf1, wfC, List.length_append, List.length_cons, List.length_nil]; omega))))))); (focus (first | rfl | (refine plain_agg ?_; simp only [go_sem]; done) | (refine plain_two ?_ ?_ <;> first | rfl | (refine plain_agg ?_; simp only [go_sem]; done)))))))) | refine WA_seq (WA_region ?_) | refine WA_region ?_ | refine WA_exit ?_); try simp (maxSteps := 1000000) (disch := first | omega | rfl | decide | (simp only [List.length_cons, List.length_nil, List.length_append, Bs_length, Is_length, Vs_length, Bl_length, Il_length] <;> omega)) only [go_sem, Nat.reduceAdd, Int.reduceAdd, Int.reduceSub, Int.reduceMul, Bool.not_true, Bool.not_false, show eqB 16 (mpF p a q) unitF = false from hu, show mmF p (mpF p a q) a = mpF p a (q + 1) from rfl]) | (refine WA_seq (WA_draw (id := 8) mixedOk (by kernel_rfl) ?_); simp (maxSteps := 1000000) (disch := first | omega | rfl | decide | (simp only [List.length_cons, List.length_nil, List.length_append, Bs_length, Is_length, Vs_length, Bl_length, Il_length] <;> omega)) only [go_sem, Nat.reduceAdd, Int.reduceAdd, Int.reduceSub, Int.reduceMul, Bool.not_true, Bool.not_false, show eqB 16 (mpF p a q) unitF = false from hu, show mmF p (mpF p a q) a = mpF p a (q + 1) from rfl]) | (refine WA_draw (id := 8) mixedOk (by kernel_rfl) ?_; simp (maxSteps := 1000000) (disch := first | omega | rfl | decide | (simp only [List.length_cons, List.length_nil, List.length_append, Bs_length, Is_length, Vs_length, Bl_length, Il_length] <;> omega)) only [go_sem, Nat.reduceAdd, Int.reduceAdd, Int.reduceSub, Int.reduceMul, Bool.not_true, Bool.not_false, show eqB 16 (mpF p a q) unitF = false from hu, show mmF p (mpF p a q) a = mpF p a (q + 1) from rfl]) | refine WA_seq ?_ | refine WA_block ?_ | (refine WA_skip ?_; try simp only [go_sem]) | (refine WA_ret ?_; try simp only [go_sem]) | refine WA_ct rfl ?_ | refine WA_cf rfl ?_))
          refine ⟨isU_next hJ hu, ?_⟩
          (refine Drop_slots (by first | exact Nat.le_refl _ | simp) ?_; focus ((try simp only [JL_same, JL_J, JL_nil, Int.reduceAdd, Nat.sub_sub, Int.natCast_add, Int.natCast_one, Int.natCast_zero, Int.cast_ofNat_Int, Nat.add_zero, Bool.false_eq_true, if_false, if_true]); (try exact JL_refl _)))
        · (repeat (first | ((first | (refine And.intro ?_ ?_; focus (first | exact plain_agg (by simp only [go_sem]) | exact plain_two (by first | exact plain_agg (by simp only [go_sem]) | rfl) rfl | rfl)) | ((first | with_reducible apply callB_i | with_reducible apply callK_intro | with_reducible apply callQ_i); (focus (first | assumption | (with_reducible apply unitI_ac <;> (first | assumption | rfl | (simp (disch := omega) only [go_sem]; first | done | rfl) | omega | decide | (simp; done))))); (try (focus (refine WP.mk ?_ ?_; (focus ((repeat (first | exact trivial | (refine And.intro ?_ ?_; (focus first | exact plainV_wf rfl | (refine plainV_wf (plain_agg ?_); simp only [go_sem]; done) | (simp only [wfV, wf1, wfC, List.length_append, List.length_cons, List.length_nil]; omega))))))); (focus (first | rfl | (refine plain_agg ?_; simp only [go_sem]; done) | (refine plain_two ?_ ?_ <;> first | rfl | (refine plain_agg ?_; simp only [go_sem]; done)))))))) | refine WA_seq (WA_region ?_) | refine WA_region ?_ | refine WA_exit ?_); try simp (maxSteps := 1000000) (disch := first | omega | rfl | decide | (simp only [List.length_cons, List.length_nil, List.length_append, Bs_length, Is_length, Vs_length, Bl_length, Il_length] <;> omega)) only [go_sem, Nat.reduceAdd, Int.reduceAdd, Int.reduceSub, Int.reduceMul, Bool.not_true, Bool.not_false, show eqB 16 (mpF p a q) unitF = true from hu]) | (refine WA_seq (WA_draw (id := 8) mixedOk (by kernel_rfl) ?_); simp (maxSteps := 1000000) (disch := first | omega | rfl | decide | (simp only [List.length_cons, List.length_nil, List.length_append, Bs_length, Is_length, Vs_length, Bl_length, Il_length] <;> omega)) only [go_sem, Nat.reduceAdd, Int.reduceAdd, Int.reduceSub, Int.reduceMul, Bool.not_true, Bool.not_false, show eqB 16 (mpF p a q) unitF = true from hu]) | (refine WA_draw (id := 8) mixedOk (by kernel_rfl) ?_; simp (maxSteps := 1000000) (disch := first | omega | rfl | decide | (simp only [List.length_cons, List.length_nil, List.length_append, Bs_length, Is_length, Vs_length, Bl_length, Il_length] <;> omega)) only [go_sem, Nat.reduceAdd, Int.reduceAdd, Int.reduceSub, Int.reduceMul, Bool.not_true, Bool.not_false, show eqB 16 (mpF p a q) unitF = true from hu]) | refine WA_seq ?_ | refine WA_block ?_ | (refine WA_skip ?_; try simp only [go_sem]) | (refine WA_ret ?_; try simp only [go_sem]) | refine WA_ct rfl ?_ | refine WA_cf rfl ?_))
          ((first | refine ret_none (by first | exact .inr rfl | exact .inl rfl) ?_ | refine ret_same (by first | exact .inr rfl | exact .inl rfl) ?_ (by first | rfl | exact plain_agg (by simp only [go_sem]) | exact plain_two (by first | exact plain_agg (by simp only [go_sem]) | rfl) (by first | exact plain_agg (by simp only [go_sem]) | rfl)) | refine ret_full (by first | exact .inr rfl | exact .inl rfl) (by simp) ?_); simp (maxSteps := 1000000) (disch := first | omega | rfl | decide | (simp only [List.length_cons, List.length_nil, List.length_append, Bs_length, Is_length, Vs_length, Bl_length, Il_length] <;> omega)) only [go_sem, Nat.reduceAdd, Int.reduceAdd, Int.reduceSub, Int.reduceMul, Bool.not_true, Bool.not_false, ordM, ordC, Int.toNat_natCast, hp, hd, Bool.and_self, cond_true, ordF_hit hq hJ hu, Option.getD_some, Option.isSome_some]; try rfl)
      · intro hJ
        (repeat (first | ((first | (refine And.intro ?_ ?_; focus (first | exact plain_agg (by simp only [go_sem]) | exact plain_two (by first | exact plain_agg (by simp only [go_sem]) | rfl) rfl | rfl)) | refine WA_seq (WA_region ?_) | refine WA_region ?_ | refine WA_exit ?_); try simp (maxSteps := 1000000) (disch := first | omega | rfl | decide | (simp only [List.length_cons, List.length_nil, List.length_append, Bs_length, Is_length, Vs_length, Bl_length, Il_length] <;> omega)) only [go_sem, Nat.reduceAdd, Int.reduceAdd, Int.reduceSub, Int.reduceMul, Bool.not_true, Bool.not_false]) | refine WA_seq ?_ | refine WA_block ?_ | (refine WA_skip ?_; try simp only [go_sem]) | (refine WA_ret ?_; try simp only [go_sem]) | refine WA_ct rfl ?_ | refine WA_cf rfl ?_))
        ((first | refine ret_none (by first | exact .inr rfl | exact .inl rfl) ?_ | refine ret_same (by first | exact .inr rfl | exact .inl rfl) ?_ (by first | rfl | exact plain_agg (by simp only [go_sem]) | exact plain_two (by first | exact plain_agg (by simp only [go_sem]) | rfl) (by first | exact plain_agg (by simp only [go_sem]) | rfl)) | refine ret_full (by first | exact .inr rfl | exact .inl rfl) (by simp) ?_); simp (maxSteps := 1000000) (disch := first | omega | rfl | decide | (simp only [List.length_cons, List.length_nil, List.length_append, Bs_length, Is_length, Vs_length, Bl_length, Il_length] <;> omega)) only [go_sem, Nat.reduceAdd, Int.reduceAdd, Int.reduceSub, Int.reduceMul, Bool.not_true, Bool.not_false, ordM, ordC, Int.toNat_natCast, hp, hd, Bool.and_self, cond_true, cond_false, ordF_miss hJ, Option.getD_none, Option.isSome_none]; try rfl)

end Go.Proofs.Ytkgiocoiojdgfaa
