/- FnMatrices is proved: whatever the input, the law returns true and its arguments read as they did. No condition. -/
import Derived.Test.YtkgiocoiojdgfaaQB1
/- RankOfBits: both sides. -/
namespace Go.Proofs.Ytkgiocoiojdgfaa
set_option linter.unusedSimpArgs false
set_option linter.unusedVariables false
set_option maxRecDepth 20000
set_option maxHeartbeats 1000000
open Go.Abs

def okV (v : Nat → Int) (n : Nat) : Bool := (List.range n).all fun j => inR (v j) 0 4294967295
theorem okV_t {v : Nat → Int} {n : Nat} (h : ∀ j, j < n → inR (v j) 0 4294967295 = true) : okV v n = true := by
  unfold okV; rw [List.all_eq_true]; intro j hj; exact h j (List.mem_range.1 hj)
theorem okV_f {v : Nat → Int} {n q : Nat} (hq : q < n) (h : inR (v q) 0 4294967295 = false) : okV v n = false := by
  cases hk : okV v n with
  | false => rfl
  | true =>
    unfold okV at hk
    rw [List.all_eq_true] at hk
    rw [hk q (List.mem_range.2 hq)] at h; cases h
def rkC (v : Nat → Int) (n : Nat) : Int := cond (decide (n ≤ 200) && okV v n) 0 2
def rkV (v : Nat → Int) (n : Nat) : Int := cond (decide (n ≤ 200) && okV v n) ((rankB (fun q => (v q).toNat) n : Nat) : Int) 0
theorem inR_nat2 {x : Int} (h : inR x 0 4294967295 = true) : x = ((x.toNat : Nat) : Int) ∧ x.toNat < 4294967296 := by
  unfold inR at h
  simp only [Bool.and_eq_true, decide_eq_true_eq] at h
  omega
theorem rkClo_ac (x : Int) (h : List Blk) : AC Try.prog 181 [.int .i64 x] h (.bool (!(inR x 0 4294967295))) h := by
  (refine AC_begin (fun _ _ => Try.call181 _ _) Try.func181 rfl Try.ntmps181 Try.results181 (fun hwf => ?_); simp only [List.length_cons, List.length_nil, Nat.reduceAdd, Nat.reduceSub, List.replicate, List.cons_append, List.nil_append])
  (repeat (first | ((first | (refine And.intro ?_ ?_; focus (first | exact plain_agg (by simp only [go_sem]) | exact plain_two (by first | exact plain_agg (by simp only [go_sem]) | rfl) rfl | rfl)) | ((first | with_reducible apply callB_i | with_reducible apply callK_intro | with_reducible apply callQ_i); (focus (first | assumption | (with_reducible apply inI_ac <;> (first | assumption | rfl | (simp (disch := omega) only [go_sem]; first | done | rfl) | omega | decide | (simp; done))))); (try (focus (refine WP.mk ?_ ?_; (focus ((repeat (first | exact trivial | (refine And.intro ?_ ?_; (focus first | exact plainV_wf rfl | (refine plainV_wf (plain_agg ?_); simp only [go_sem]; done) | (simp only [wfV, wf1, wfC, List.length_append, List.length_cons, List.length_nil]; omega))))))); (focus (first | rfl | (refine plain_agg ?_; simp only [go_sem]; done) | (refine plain_two ?_ ?_ <;> first | rfl | (refine plain_agg ?_; simp only [go_sem]; done)))))))) | refine WA_seq (WA_region ?_) | refine WA_region ?_ | refine WA_exit ?_); try simp (maxSteps := 1000000) (disch := first | omega | rfl | decide | (simp only [List.length_cons, List.length_nil, List.length_append, Bs_length, Is_length, Vs_length, Bl_length, Il_length] <;> omega)) only [go_sem, Nat.reduceAdd, Int.reduceAdd, Int.reduceSub, Int.reduceMul, Bool.not_true, Bool.not_false]) | refine WA_seq ?_ | refine WA_block ?_ | (refine WA_skip ?_; try simp only [go_sem]) | (refine WA_ret ?_; try simp only [go_sem]) | refine WA_ct rfl ?_ | refine WA_cf rfl ?_))
  ((first | refine ret_none (by first | exact .inr rfl | exact .inl rfl) ?_ | refine ret_same (by first | exact .inr rfl | exact .inl rfl) ?_ (by first | rfl | exact plain_agg (by simp only [go_sem]) | exact plain_two (by first | exact plain_agg (by simp only [go_sem]) | rfl) (by first | exact plain_agg (by simp only [go_sem]) | rfl)) | refine ret_full (by first | exact .inr rfl | exact .inl rfl) (by simp) ?_); simp (maxSteps := 1000000) (disch := first | omega | rfl | decide | (simp only [List.length_cons, List.length_nil, List.length_append, Bs_length, Is_length, Vs_length, Bl_length, Il_length] <;> omega)) only [go_sem, Nat.reduceAdd, Int.reduceAdd, Int.reduceSub, Int.reduceMul, Bool.not_true, Bool.not_false]; try rfl)

theorem idxF_ac {v : Nat → Int} {n : Nat} {h : List Blk} {b : Nat} {r : Bool} (hb : h[b]? = some ⟨Is n v, r⟩) (hn : n ≤ 1048576) (ho : ∀ j, j < n → inR (v j) 0 4294967295 = true) :
    AC Try.prog 214 [sl b 0 n 1, .func (.func 181) #[] #[]] h (.int .i64 (-1)) h := by
  have hbl := blt hb
  (refine AC_begin (fun _ _ => Try.call214 _ _) Try.func214 rfl Try.ntmps214 Try.results214 (fun hwf => ?_); simp only [List.length_cons, List.length_nil, Nat.reduceAdd, Nat.reduceSub, List.replicate, List.cons_append, List.nil_append])
  (repeat (first | ((first | (refine And.intro ?_ ?_; focus (first | exact plain_agg (by simp only [go_sem]) | exact plain_two (by first | exact plain_agg (by simp only [go_sem]) | rfl) rfl | rfl)) | refine WA_seq (WA_region ?_) | refine WA_region ?_ | refine WA_exit ?_); try simp (maxSteps := 1000000) (disch := first | omega | rfl | decide | (simp only [List.length_cons, List.length_nil, List.length_append, Bs_length, Is_length, Vs_length, Bl_length, Il_length] <;> omega)) only [go_sem, Nat.reduceAdd, Int.reduceAdd, Int.reduceSub, Int.reduceMul, Bool.not_true, Bool.not_false]) | refine WA_seq ?_ | refine WA_block ?_ | (refine WA_skip ?_; try simp only [go_sem]) | (refine WA_ret ?_; try simp only [go_sem]) | refine WA_ct rfl ?_ | refine WA_cf rfl ?_))
  refine WA_forH (fun k => [(4, J), (5, J), (8, .int .i64 k), (9, J), (10, J), (11, J), (12, J), (13, J), (14, J), (15, J), (16, J), (17, J), (18, J)]) (fun k => h) (n) ?_ ?_ ?_ <;> (try simp only [patT_cons, patT_nil, patL_cons, patL_nil, list_set_zero, list_set_succ, blk_set_zero, blk_set_succ])
  · (refine Drop_slots (by first | exact Nat.le_refl _ | simp) ?_; focus ((try simp only [JL_same, JL_J, JL_nil, Int.reduceAdd, Nat.sub_sub, Int.natCast_add, Int.natCast_one, Int.natCast_zero, Int.cast_ofNat_Int, Nat.add_zero, Bool.false_eq_true, if_false, if_true]); (try exact JL_refl _)))
  · intro k hk
    have hok := ho k hk
    (repeat (first | ((first | (refine And.intro ?_ ?_; focus (first | exact plain_agg (by simp only [go_sem]) | exact plain_two (by first | exact plain_agg (by simp only [go_sem]) | rfl) rfl | rfl)) | refine WA_seq (WA_region (id := 2) ?_) | refine WA_region (id := 2) ?_ | refine WA_seq (WA_region (id := 3) ?_) | refine WA_region (id := 3) ?_ | refine WA_exit ?_); try simp (maxSteps := 1000000) (disch := first | omega | rfl | decide | (simp only [List.length_cons, List.length_nil, List.length_append, Bs_length, Is_length, Vs_length, Bl_length, Il_length] <;> omega)) only [go_sem, Nat.reduceAdd, Int.reduceAdd, Int.reduceSub, Int.reduceMul, Bool.not_true, Bool.not_false, hb]) | refine WA_seq ?_ | refine WA_block ?_ | (refine WA_skip ?_; try simp only [go_sem]) | (refine WA_ret ?_; try simp only [go_sem]) | refine WA_ct rfl ?_ | refine WA_cf rfl ?_))
    refine WA_regionD ?_
    refine opsKd_run rfl ?_
    simp (maxSteps := 1000000) (disch := first | omega | rfl | decide | (simp only [List.length_cons, List.length_nil, List.length_append, Bs_length, Is_length, Vs_length, Bl_length, Il_length] <;> omega)) only [go_sem, Nat.reduceAdd, Int.reduceAdd, Int.reduceSub, Int.reduceMul, Bool.not_true, Bool.not_false, hb]
    refine opsKd_run rfl ?_
    simp (maxSteps := 1000000) (disch := first | omega | rfl | decide | (simp only [List.length_cons, List.length_nil, List.length_append, Bs_length, Is_length, Vs_length, Bl_length, Il_length] <;> omega)) only [go_sem, Nat.reduceAdd, Int.reduceAdd, Int.reduceSub, Int.reduceMul, Bool.not_true, Bool.not_false, hb]
    refine opsKd_run rfl ?_
    simp (maxSteps := 1000000) (disch := first | omega | rfl | decide | (simp only [List.length_cons, List.length_nil, List.length_append, Bs_length, Is_length, Vs_length, Bl_length, Il_length] <;> omega)) only [go_sem, Nat.reduceAdd, Int.reduceAdd, Int.reduceSub, Int.reduceMul, Bool.not_true, Bool.not_false, hb]
    refine opsKd_run rfl ?_
    simp (maxSteps := 1000000) (disch := first | omega | rfl | decide | (simp only [List.length_cons, List.length_nil, List.length_append, Bs_length, Is_length, Vs_length, Bl_length, Il_length] <;> omega)) only [go_sem, Nat.reduceAdd, Int.reduceAdd, Int.reduceSub, Int.reduceMul, Bool.not_true, Bool.not_false, hb]
    refine opsKd_run rfl ?_
    simp (maxSteps := 1000000) (disch := first | omega | rfl | decide | (simp only [List.length_cons, List.length_nil, List.length_append, Bs_length, Is_length, Vs_length, Bl_length, Il_length] <;> omega)) only [go_sem, Nat.reduceAdd, Int.reduceAdd, Int.reduceSub, Int.reduceMul, Bool.not_true, Bool.not_false, hb]
    refine opsKd_dyn (f := 181) rfl rfl rfl ?_
    refine call_k (rkClo_ac (v k) h) ?_
    refine opsKd_nil ?_
    simp (maxSteps := 1000000) (disch := first | omega | rfl | decide | (simp only [List.length_cons, List.length_nil, List.length_append, Bs_length, Is_length, Vs_length, Bl_length, Il_length] <;> omega)) only [go_sem, Nat.reduceAdd, Int.reduceAdd, Int.reduceSub, Int.reduceMul, Bool.not_true, Bool.not_false, hok, Bool.not_true]
    (repeat (first | ((first | (refine And.intro ?_ ?_; focus (first | exact plain_agg (by simp only [go_sem]) | exact plain_two (by first | exact plain_agg (by simp only [go_sem]) | rfl) rfl | rfl)) | refine WA_seq (WA_region ?_) | refine WA_region ?_ | refine WA_exit ?_); try simp (maxSteps := 1000000) (disch := first | omega | rfl | decide | (simp only [List.length_cons, List.length_nil, List.length_append, Bs_length, Is_length, Vs_length, Bl_length, Il_length] <;> omega)) only [go_sem, Nat.reduceAdd, Int.reduceAdd, Int.reduceSub, Int.reduceMul, Bool.not_true, Bool.not_false]) | refine WA_seq ?_ | refine WA_block ?_ | (refine WA_skip ?_; try simp only [go_sem]) | (refine WA_ret ?_; try simp only [go_sem]) | refine WA_ct rfl ?_ | refine WA_cf rfl ?_))
    (refine Drop_slots (by first | exact Nat.le_refl _ | simp) ?_; focus ((try simp only [JL_same, JL_J, JL_nil, Int.reduceAdd, Nat.sub_sub, Int.natCast_add, Int.natCast_one, Int.natCast_zero, Int.cast_ofNat_Int, Nat.add_zero, Bool.false_eq_true, if_false, if_true]); (try exact JL_refl _)))
  · (repeat (first | ((first | (refine And.intro ?_ ?_; focus (first | exact plain_agg (by simp only [go_sem]) | exact plain_two (by first | exact plain_agg (by simp only [go_sem]) | rfl) rfl | rfl)) | refine WA_seq (WA_region ?_) | refine WA_region ?_ | refine WA_exit ?_); try simp (maxSteps := 1000000) (disch := first | omega | rfl | decide | (simp only [List.length_cons, List.length_nil, List.length_append, Bs_length, Is_length, Vs_length, Bl_length, Il_length] <;> omega)) only [go_sem, Nat.reduceAdd, Int.reduceAdd, Int.reduceSub, Int.reduceMul, Bool.not_true, Bool.not_false]) | refine WA_seq ?_ | refine WA_block ?_ | (refine WA_skip ?_; try simp only [go_sem]) | (refine WA_ret ?_; try simp only [go_sem]) | refine WA_ct rfl ?_ | refine WA_cf rfl ?_))
    ((first | refine ret_none (by first | exact .inr rfl | exact .inl rfl) ?_ | refine ret_same (by first | exact .inr rfl | exact .inl rfl) ?_ (by first | rfl | exact plain_agg (by simp only [go_sem]) | exact plain_two (by first | exact plain_agg (by simp only [go_sem]) | rfl) (by first | exact plain_agg (by simp only [go_sem]) | rfl)) | refine ret_full (by first | exact .inr rfl | exact .inl rfl) (by simp) ?_); simp (maxSteps := 1000000) (disch := first | omega | rfl | decide | (simp only [List.length_cons, List.length_nil, List.length_append, Bs_length, Is_length, Vs_length, Bl_length, Il_length] <;> omega)) only [go_sem, Nat.reduceAdd, Int.reduceAdd, Int.reduceSub, Int.reduceMul, Bool.not_true, Bool.not_false]; try rfl)

theorem idxF_bad {v : Nat → Int} {n q : Nat} {h : List Blk} {b : Nat} {r : Bool} (hb : h[b]? = some ⟨Is n v, r⟩) (hn : n ≤ 1048576) (hq : q < n) (ho : ∀ j, j < q → inR (v j) 0 4294967295 = true) (hz : inR (v q) 0 4294967295 = false) :
    AC Try.prog 214 [sl b 0 n 1, .func (.func 181) #[] #[]] h (.int .i64 q) h := by
  have hbl := blt hb
  (refine AC_begin (fun _ _ => Try.call214 _ _) Try.func214 rfl Try.ntmps214 Try.results214 (fun hwf => ?_); simp only [List.length_cons, List.length_nil, Nat.reduceAdd, Nat.reduceSub, List.replicate, List.cons_append, List.nil_append])
  (repeat (first | ((first | (refine And.intro ?_ ?_; focus (first | exact plain_agg (by simp only [go_sem]) | exact plain_two (by first | exact plain_agg (by simp only [go_sem]) | rfl) rfl | rfl)) | refine WA_seq (WA_region ?_) | refine WA_region ?_ | refine WA_exit ?_); try simp (maxSteps := 1000000) (disch := first | omega | rfl | decide | (simp only [List.length_cons, List.length_nil, List.length_append, Bs_length, Is_length, Vs_length, Bl_length, Il_length] <;> omega)) only [go_sem, Nat.reduceAdd, Int.reduceAdd, Int.reduceSub, Int.reduceMul, Bool.not_true, Bool.not_false]) | refine WA_seq ?_ | refine WA_block ?_ | (refine WA_skip ?_; try simp only [go_sem]) | (refine WA_ret ?_; try simp only [go_sem]) | refine WA_ct rfl ?_ | refine WA_cf rfl ?_))
  refine WA_forH (fun k => [(4, J), (5, J), (8, .int .i64 k), (9, J), (10, J), (11, J), (12, J), (13, J), (14, J), (15, J), (16, J), (17, J), (18, J)]) (fun k => h) (q) ?_ ?_ ?_ <;> (try simp only [patT_cons, patT_nil, patL_cons, patL_nil, list_set_zero, list_set_succ, blk_set_zero, blk_set_succ])
  · (refine Drop_slots (by first | exact Nat.le_refl _ | simp) ?_; focus ((try simp only [JL_same, JL_J, JL_nil, Int.reduceAdd, Nat.sub_sub, Int.natCast_add, Int.natCast_one, Int.natCast_zero, Int.cast_ofNat_Int, Nat.add_zero, Bool.false_eq_true, if_false, if_true]); (try exact JL_refl _)))
  · intro k hk
    have hok := ho k hk
    (repeat (first | ((first | (refine And.intro ?_ ?_; focus (first | exact plain_agg (by simp only [go_sem]) | exact plain_two (by first | exact plain_agg (by simp only [go_sem]) | rfl) rfl | rfl)) | refine WA_seq (WA_region (id := 2) ?_) | refine WA_region (id := 2) ?_ | refine WA_seq (WA_region (id := 3) ?_) | refine WA_region (id := 3) ?_ | refine WA_exit ?_); try simp (maxSteps := 1000000) (disch := first | omega | rfl | decide | (simp only [List.length_cons, List.length_nil, List.length_append, Bs_length, Is_length, Vs_length, Bl_length, Il_length] <;> omega)) only [go_sem, Nat.reduceAdd, Int.reduceAdd, Int.reduceSub, Int.reduceMul, Bool.not_true, Bool.not_false, hb]) | refine WA_seq ?_ | refine WA_block ?_ | (refine WA_skip ?_; try simp only [go_sem]) | (refine WA_ret ?_; try simp only [go_sem]) | refine WA_ct rfl ?_ | refine WA_cf rfl ?_))
    refine WA_regionD ?_
    refine opsKd_run rfl ?_
    simp (maxSteps := 1000000) (disch := first | omega | rfl | decide | (simp only [List.length_cons, List.length_nil, List.length_append, Bs_length, Is_length, Vs_length, Bl_length, Il_length] <;> omega)) only [go_sem, Nat.reduceAdd, Int.reduceAdd, Int.reduceSub, Int.reduceMul, Bool.not_true, Bool.not_false, hb]
    refine opsKd_run rfl ?_
    simp (maxSteps := 1000000) (disch := first | omega | rfl | decide | (simp only [List.length_cons, List.length_nil, List.length_append, Bs_length, Is_length, Vs_length, Bl_length, Il_length] <;> omega)) only [go_sem, Nat.reduceAdd, Int.reduceAdd, Int.reduceSub, Int.reduceMul, Bool.not_true, Bool.not_false, hb]
    refine opsKd_run rfl ?_
    simp (maxSteps := 1000000) (disch := first | omega | rfl | decide | (simp only [List.length_cons, List.length_nil, List.length_append, Bs_length, Is_length, Vs_length, Bl_length, Il_length] <;> omega)) only [go_sem, Nat.reduceAdd, Int.reduceAdd, Int.reduceSub, Int.reduceMul, Bool.not_true, Bool.not_false, hb]
    refine opsKd_run rfl ?_
    simp (maxSteps := 1000000) (disch := first | omega | rfl | decide | (simp only [List.length_cons, List.length_nil, List.length_append, Bs_length, Is_length, Vs_length, Bl_length, Il_length] <;> omega)) only [go_sem, Nat.reduceAdd, Int.reduceAdd, Int.reduceSub, Int.reduceMul, Bool.not_true, Bool.not_false, hb]
    refine opsKd_run rfl ?_
    simp (maxSteps := 1000000) (disch := first | omega | rfl | decide | (simp only [List.length_cons, List.length_nil, List.length_append, Bs_length, Is_length, Vs_length, Bl_length, Il_length] <;> omega)) only [go_sem, Nat.reduceAdd, Int.reduceAdd, Int.reduceSub, Int.reduceMul, Bool.not_true, Bool.not_false, hb]
    refine opsKd_dyn (f := 181) rfl rfl rfl ?_
    refine call_k (rkClo_ac (v k) h) ?_
    refine opsKd_nil ?_
    simp (maxSteps := 1000000) (disch := first | omega | rfl | decide | (simp only [List.length_cons, List.length_nil, List.length_append, Bs_length, Is_length, Vs_length, Bl_length, Il_length] <;> omega)) only [go_sem, Nat.reduceAdd, Int.reduceAdd, Int.reduceSub, Int.reduceMul, Bool.not_true, Bool.not_false, hok, Bool.not_true]
    (repeat (first | ((first | (refine And.intro ?_ ?_; focus (first | exact plain_agg (by simp only [go_sem]) | exact plain_two (by first | exact plain_agg (by simp only [go_sem]) | rfl) rfl | rfl)) | refine WA_seq (WA_region ?_) | refine WA_region ?_ | refine WA_exit ?_); try simp (maxSteps := 1000000) (disch := first | omega | rfl | decide | (simp only [List.length_cons, List.length_nil, List.length_append, Bs_length, Is_length, Vs_length, Bl_length, Il_length] <;> omega)) only [go_sem, Nat.reduceAdd, Int.reduceAdd, Int.reduceSub, Int.reduceMul, Bool.not_true, Bool.not_false]) | refine WA_seq ?_ | refine WA_block ?_ | (refine WA_skip ?_; try simp only [go_sem]) | (refine WA_ret ?_; try simp only [go_sem]) | refine WA_ct rfl ?_ | refine WA_cf rfl ?_))
    (refine Drop_slots (by first | exact Nat.le_refl _ | simp) ?_; focus ((try simp only [JL_same, JL_J, JL_nil, Int.reduceAdd, Nat.sub_sub, Int.natCast_add, Int.natCast_one, Int.natCast_zero, Int.cast_ofNat_Int, Nat.add_zero, Bool.false_eq_true, if_false, if_true]); (try exact JL_refl _)))
  · have hk : q < n := hq
    (repeat (first | ((first | (refine And.intro ?_ ?_; focus (first | exact plain_agg (by simp only [go_sem]) | exact plain_two (by first | exact plain_agg (by simp only [go_sem]) | rfl) rfl | rfl)) | refine WA_seq (WA_region (id := 2) ?_) | refine WA_region (id := 2) ?_ | refine WA_seq (WA_region (id := 3) ?_) | refine WA_region (id := 3) ?_ | refine WA_exit ?_); try simp (maxSteps := 1000000) (disch := first | omega | rfl | decide | (simp only [List.length_cons, List.length_nil, List.length_append, Bs_length, Is_length, Vs_length, Bl_length, Il_length] <;> omega)) only [go_sem, Nat.reduceAdd, Int.reduceAdd, Int.reduceSub, Int.reduceMul, Bool.not_true, Bool.not_false, hb]) | refine WA_seq ?_ | refine WA_block ?_ | (refine WA_skip ?_; try simp only [go_sem]) | (refine WA_ret ?_; try simp only [go_sem]) | refine WA_ct rfl ?_ | refine WA_cf rfl ?_))
    refine WA_regionD ?_
    refine opsKd_run rfl ?_
    simp (maxSteps := 1000000) (disch := first | omega | rfl | decide | (simp only [List.length_cons, List.length_nil, List.length_append, Bs_length, Is_length, Vs_length, Bl_length, Il_length] <;> omega)) only [go_sem, Nat.reduceAdd, Int.reduceAdd, Int.reduceSub, Int.reduceMul, Bool.not_true, Bool.not_false, hb]
    refine opsKd_run rfl ?_
    simp (maxSteps := 1000000) (disch := first | omega | rfl | decide | (simp only [List.length_cons, List.length_nil, List.length_append, Bs_length, Is_length, Vs_length, Bl_length, Il_length] <;> omega)) only [go_sem, Nat.reduceAdd, Int.reduceAdd, Int.reduceSub, Int.reduceMul, Bool.not_true, Bool.not_false, hb]
    refine opsKd_run rfl ?_
    simp (maxSteps := 1000000) (disch := first | omega | rfl | decide | (simp only [List.length_cons, List.length_nil, List.length_append, Bs_length, Is_length, Vs_length, Bl_length, Il_length] <;> omega)) only [go_sem, Nat.reduceAdd, Int.reduceAdd, Int.reduceSub, Int.reduceMul, Bool.not_true, Bool.not_false, hb]
    refine opsKd_run rfl ?_
    simp (maxSteps := 1000000) (disch := first | omega | rfl | decide | (simp only [List.length_cons, List.length_nil, List.length_append, Bs_length, Is_length, Vs_length, Bl_length, Il_length] <;> omega)) only [go_sem, Nat.reduceAdd, Int.reduceAdd, Int.reduceSub, Int.reduceMul, Bool.not_true, Bool.not_false, hb]
    refine opsKd_run rfl ?_
    simp (maxSteps := 1000000) (disch := first | omega | rfl | decide | (simp only [List.length_cons, List.length_nil, List.length_append, Bs_length, Is_length, Vs_length, Bl_length, Il_length] <;> omega)) only [go_sem, Nat.reduceAdd, Int.reduceAdd, Int.reduceSub, Int.reduceMul, Bool.not_true, Bool.not_false, hb]
    refine opsKd_dyn (f := 181) rfl rfl rfl ?_
    refine call_k (rkClo_ac (v q) h) ?_
    refine opsKd_nil ?_
    simp (maxSteps := 1000000) (disch := first | omega | rfl | decide | (simp only [List.length_cons, List.length_nil, List.length_append, Bs_length, Is_length, Vs_length, Bl_length, Il_length] <;> omega)) only [go_sem, Nat.reduceAdd, Int.reduceAdd, Int.reduceSub, Int.reduceMul, Bool.not_true, Bool.not_false, hz, Bool.not_false]
    (repeat (first | ((first | (refine And.intro ?_ ?_; focus (first | exact plain_agg (by simp only [go_sem]) | exact plain_two (by first | exact plain_agg (by simp only [go_sem]) | rfl) rfl | rfl)) | refine WA_seq (WA_region ?_) | refine WA_region ?_ | refine WA_exit ?_); try simp (maxSteps := 1000000) (disch := first | omega | rfl | decide | (simp only [List.length_cons, List.length_nil, List.length_append, Bs_length, Is_length, Vs_length, Bl_length, Il_length] <;> omega)) only [go_sem, Nat.reduceAdd, Int.reduceAdd, Int.reduceSub, Int.reduceMul, Bool.not_true, Bool.not_false]) | refine WA_seq ?_ | refine WA_block ?_ | (refine WA_skip ?_; try simp only [go_sem]) | (refine WA_ret ?_; try simp only [go_sem]) | refine WA_ct rfl ?_ | refine WA_cf rfl ?_))
    ((first | refine ret_none (by first | exact .inr rfl | exact .inl rfl) ?_ | refine ret_same (by first | exact .inr rfl | exact .inl rfl) ?_ (by first | rfl | exact plain_agg (by simp only [go_sem]) | exact plain_two (by first | exact plain_agg (by simp only [go_sem]) | rfl) (by first | exact plain_agg (by simp only [go_sem]) | rfl)) | refine ret_full (by first | exact .inr rfl | exact .inl rfl) (by simp) ?_); simp (maxSteps := 1000000) (disch := first | omega | rfl | decide | (simp only [List.length_cons, List.length_nil, List.length_append, Bs_length, Is_length, Vs_length, Bl_length, Il_length] <;> omega)) only [go_sem, Nat.reduceAdd, Int.reduceAdd, Int.reduceSub, Int.reduceMul, Bool.not_true, Bool.not_false]; try rfl)

theorem conF_ac {v : Nat → Int} {n : Nat} {h : List Blk} {b : Nat} {r : Bool} (hb : h[b]? = some ⟨Is n v, r⟩) (hn : n ≤ 1048576) :
    AC Try.prog 180 [sl b 0 n 1, .func (.func 181) #[] #[]] h (.bool (!(okV v n))) h := by
  rcases bad_first (fun j => inR (v j) 0 4294967295) n with ho | ⟨q, hq, ho, hz⟩
  · have hi := idxF_ac hb hn ho
    rw [okV_t ho]
    (refine AC_begin (fun _ _ => Try.call180 _ _) Try.func180 rfl Try.ntmps180 Try.results180 (fun hwf => ?_); simp only [List.length_cons, List.length_nil, Nat.reduceAdd, Nat.reduceSub, List.replicate, List.cons_append, List.nil_append])
    (repeat (first | ((first | (refine And.intro ?_ ?_; focus (first | exact plain_agg (by simp only [go_sem]) | exact plain_two (by first | exact plain_agg (by simp only [go_sem]) | rfl) rfl | rfl)) | ((first | with_reducible apply callB_i | with_reducible apply callK_intro | with_reducible apply callQ_i); (focus (first | assumption | (with_reducible apply hi <;> (first | assumption | rfl | (simp (disch := omega) only [go_sem]; first | done | rfl) | omega | decide | (simp; done))))); (try (focus (refine WP.mk ?_ ?_; (focus ((repeat (first | exact trivial | (refine And.intro ?_ ?_; (focus first | exact plainV_wf rfl | (refine plainV_wf (plain_agg ?_); simp only [go_sem]; done) | (simp only [wfV, wf1, wfC, List.length_append, List.length_cons, List.length_nil]; omega))))))); (focus (first | rfl | (refine plain_agg ?_; simp only [go_sem]; done) | (refine plain_two ?_ ?_ <;> first | rfl | (refine plain_agg ?_; simp only [go_sem]; done)))))))) | refine WA_seq (WA_region ?_) | refine WA_region ?_ | refine WA_exit ?_); try simp (maxSteps := 1000000) (disch := first | omega | rfl | decide | (simp only [List.length_cons, List.length_nil, List.length_append, Bs_length, Is_length, Vs_length, Bl_length, Il_length] <;> omega)) only [go_sem, Nat.reduceAdd, Int.reduceAdd, Int.reduceSub, Int.reduceMul, Bool.not_true, Bool.not_false]) | refine WA_seq ?_ | refine WA_block ?_ | (refine WA_skip ?_; try simp only [go_sem]) | (refine WA_ret ?_; try simp only [go_sem]) | refine WA_ct rfl ?_ | refine WA_cf rfl ?_))
    ((first | refine ret_none (by first | exact .inr rfl | exact .inl rfl) ?_ | refine ret_same (by first | exact .inr rfl | exact .inl rfl) ?_ (by first | rfl | exact plain_agg (by simp only [go_sem]) | exact plain_two (by first | exact plain_agg (by simp only [go_sem]) | rfl) (by first | exact plain_agg (by simp only [go_sem]) | rfl)) | refine ret_full (by first | exact .inr rfl | exact .inl rfl) (by simp) ?_); simp (maxSteps := 1000000) (disch := first | omega | rfl | decide | (simp only [List.length_cons, List.length_nil, List.length_append, Bs_length, Is_length, Vs_length, Bl_length, Il_length] <;> omega)) only [go_sem, Nat.reduceAdd, Int.reduceAdd, Int.reduceSub, Int.reduceMul, Bool.not_true, Bool.not_false]; try rfl)
  · have hi := idxF_bad hb hn hq ho hz
    rw [okV_f hq hz]
    (refine AC_begin (fun _ _ => Try.call180 _ _) Try.func180 rfl Try.ntmps180 Try.results180 (fun hwf => ?_); simp only [List.length_cons, List.length_nil, Nat.reduceAdd, Nat.reduceSub, List.replicate, List.cons_append, List.nil_append])
    (repeat (first | ((first | (refine And.intro ?_ ?_; focus (first | exact plain_agg (by simp only [go_sem]) | exact plain_two (by first | exact plain_agg (by simp only [go_sem]) | rfl) rfl | rfl)) | ((first | with_reducible apply callB_i | with_reducible apply callK_intro | with_reducible apply callQ_i); (focus (first | assumption | (with_reducible apply hi <;> (first | assumption | rfl | (simp (disch := omega) only [go_sem]; first | done | rfl) | omega | decide | (simp; done))))); (try (focus (refine WP.mk ?_ ?_; (focus ((repeat (first | exact trivial | (refine And.intro ?_ ?_; (focus first | exact plainV_wf rfl | (refine plainV_wf (plain_agg ?_); simp only [go_sem]; done) | (simp only [wfV, wf1, wfC, List.length_append, List.length_cons, List.length_nil]; omega))))))); (focus (first | rfl | (refine plain_agg ?_; simp only [go_sem]; done) | (refine plain_two ?_ ?_ <;> first | rfl | (refine plain_agg ?_; simp only [go_sem]; done)))))))) | refine WA_seq (WA_region ?_) | refine WA_region ?_ | refine WA_exit ?_); try simp (maxSteps := 1000000) (disch := first | omega | rfl | decide | (simp only [List.length_cons, List.length_nil, List.length_append, Bs_length, Is_length, Vs_length, Bl_length, Il_length] <;> omega)) only [go_sem, Nat.reduceAdd, Int.reduceAdd, Int.reduceSub, Int.reduceMul, Bool.not_true, Bool.not_false]) | refine WA_seq ?_ | refine WA_block ?_ | (refine WA_skip ?_; try simp only [go_sem]) | (refine WA_ret ?_; try simp only [go_sem]) | refine WA_ct rfl ?_ | refine WA_cf rfl ?_))
    ((first | refine ret_none (by first | exact .inr rfl | exact .inl rfl) ?_ | refine ret_same (by first | exact .inr rfl | exact .inl rfl) ?_ (by first | rfl | exact plain_agg (by simp only [go_sem]) | exact plain_two (by first | exact plain_agg (by simp only [go_sem]) | rfl) (by first | exact plain_agg (by simp only [go_sem]) | rfl)) | refine ret_full (by first | exact .inr rfl | exact .inl rfl) (by simp) ?_); simp (maxSteps := 1000000) (disch := first | omega | rfl | decide | (simp only [List.length_cons, List.length_nil, List.length_append, Bs_length, Is_length, Vs_length, Bl_length, Il_length] <;> omega)) only [go_sem, Nat.reduceAdd, Int.reduceAdd, Int.reduceSub, Int.reduceMul, Bool.not_true, Bool.not_false]; try rfl)

theorem lenI64_ac (b : Nat) {n : Nat} (hn : n ≤ 1048576) (h : List Blk) : AC Try.prog 182 [sl b 0 n 1] h (.int .i64 n) h := by
  (refine AC_begin (fun _ _ => Try.call182 _ _) Try.func182 rfl Try.ntmps182 Try.results182 (fun hwf => ?_); simp only [List.length_cons, List.length_nil, Nat.reduceAdd, Nat.reduceSub, List.replicate, List.cons_append, List.nil_append])
  (repeat (first | ((first | (refine And.intro ?_ ?_; focus (first | exact plain_agg (by simp only [go_sem]) | exact plain_two (by first | exact plain_agg (by simp only [go_sem]) | rfl) rfl | rfl)) | refine WA_seq (WA_region ?_) | refine WA_region ?_ | refine WA_exit ?_); try simp (maxSteps := 1000000) (disch := first | omega | rfl | decide | (simp only [List.length_cons, List.length_nil, List.length_append, Bs_length, Is_length, Vs_length, Bl_length, Il_length] <;> omega)) only [go_sem, Nat.reduceAdd, Int.reduceAdd, Int.reduceSub, Int.reduceMul, Bool.not_true, Bool.not_false]) | refine WA_seq ?_ | refine WA_block ?_ | (refine WA_skip ?_; try simp only [go_sem]) | (refine WA_ret ?_; try simp only [go_sem]) | refine WA_ct rfl ?_ | refine WA_cf rfl ?_))
  ((first | refine ret_none (by first | exact .inr rfl | exact .inl rfl) ?_ | refine ret_same (by first | exact .inr rfl | exact .inl rfl) ?_ (by first | rfl | exact plain_agg (by simp only [go_sem]) | exact plain_two (by first | exact plain_agg (by simp only [go_sem]) | rfl) (by first | exact plain_agg (by simp only [go_sem]) | rfl)) | refine ret_full (by first | exact .inr rfl | exact .inl rfl) (by simp) ?_); simp (maxSteps := 1000000) (disch := first | omega | rfl | decide | (simp only [List.length_cons, List.length_nil, List.length_append, Bs_length, Is_length, Vs_length, Bl_length, Il_length] <;> omega)) only [go_sem, Nat.reduceAdd, Int.reduceAdd, Int.reduceSub, Int.reduceMul, Bool.not_true, Bool.not_false]; try rfl)

theorem Is_nat {v : Nat → Int} {n : Nat} (ho : okV v n = true) : ∀ j, j < n → v j = (((fun q => (v q).toNat) j : Nat) : Int) ∧ (v j).toNat < 4294967296 := fun j hj => by
  unfold okV at ho
  rw [List.all_eq_true] at ho
  exact inR_nat2 (ho j (List.mem_range.2 hj))
theorem rkbI_ac {v : Nat → Int} {n : Nat} {h : List Blk} {b : Nat} {r : Bool} (hb : h[b]? = some ⟨Is n v, r⟩) (hn : n ≤ 1048576) :
    AC Try.prog 83 [sl b 0 n 1] h (.tuple #[.int .i64 (rkV v n), .int .i64 (rkC v n)]) h := by
  have hbl := blt hb
  have hcf := conF_ac hb hn
  by_cases h200 : n ≤ 200
  · have hd : decide (200 < n) = false := decide_eq_false (by omega)
    cases ho : okV v n
    · rw [ho] at hcf
      (refine AC_begin (fun _ _ => Try.call83 _ _) Try.func83 rfl Try.ntmps83 Try.results83 (fun hwf => ?_); simp only [List.length_cons, List.length_nil, Nat.reduceAdd, Nat.reduceSub, List.replicate, List.cons_append, List.nil_append])
      (repeat (first | ((first | (refine And.intro ?_ ?_; focus (first | exact plain_agg (by simp only [go_sem]) | exact plain_two (by first | exact plain_agg (by simp only [go_sem]) | rfl) rfl | rfl)) | ((first | with_reducible apply callB_i | with_reducible apply callK_intro | with_reducible apply callQ_i); (focus (first | assumption | (with_reducible apply hcf <;> (first | assumption | rfl | (simp (disch := omega) only [go_sem]; first | done | rfl) | omega | decide | (simp; done))))); (try (focus (refine WP.mk ?_ ?_; (focus ((repeat (first | exact trivial | (refine And.intro ?_ ?_; (focus first | exact plainV_wf rfl | (refine plainV_wf (plain_agg ?_); simp only [go_sem]; done) | (simp only [wfV, wf1, wfC, List.length_append, List.length_cons, List.length_nil]; omega))))))); (focus (first | rfl | (refine plain_agg ?_; simp only [go_sem]; done) | (refine plain_two ?_ ?_ <;> first | rfl | (refine plain_agg ?_; simp only [go_sem]; done)))))))) | refine WA_seq (WA_region ?_) | refine WA_region ?_ | refine WA_exit ?_); try simp (maxSteps := 1000000) (disch := first | omega | rfl | decide | (simp only [List.length_cons, List.length_nil, List.length_append, Bs_length, Is_length, Vs_length, Bl_length, Il_length] <;> omega)) only [go_sem, Nat.reduceAdd, Int.reduceAdd, Int.reduceSub, Int.reduceMul, Bool.not_true, Bool.not_false, hd, Bool.not_false, yieldA_at 3 12]) | refine WA_seq ?_ | refine WA_block ?_ | (refine WA_skip ?_; try simp only [go_sem]) | (refine WA_ret ?_; try simp only [go_sem]) | refine WA_ct rfl ?_ | refine WA_cf rfl ?_))
      ((first | refine ret_none (by first | exact .inr rfl | exact .inl rfl) ?_ | refine ret_same (by first | exact .inr rfl | exact .inl rfl) ?_ (by first | rfl | exact plain_agg (by simp only [go_sem]) | exact plain_two (by first | exact plain_agg (by simp only [go_sem]) | rfl) (by first | exact plain_agg (by simp only [go_sem]) | rfl)) | refine ret_full (by first | exact .inr rfl | exact .inl rfl) (by simp) ?_); simp (maxSteps := 1000000) (disch := first | omega | rfl | decide | (simp only [List.length_cons, List.length_nil, List.length_append, Bs_length, Is_length, Vs_length, Bl_length, Il_length] <;> omega)) only [go_sem, Nat.reduceAdd, Int.reduceAdd, Int.reduceSub, Int.reduceMul, Bool.not_true, Bool.not_false, rkV, rkC, ho, Bool.and_false, cond_false]; try rfl)
    · rw [ho] at hcf
      have hg := Is_nat ho
      have hg1 := fun j hj => (hg j hj).1
      have hglt : ∀ q, q < n → (fun q => (v q).toNat) q < 4294967296 := fun j hj => (hg j hj).2
      have hV : rkV v n = ((rankB (fun q => (v q).toNat) n : Nat) : Int) := by unfold rkV; rw [ho, decide_eq_true h200]; rfl
      have hC : rkC v n = 0 := by unfold rkC; rw [ho, decide_eq_true h200]; rfl
      rw [hV, hC]
      generalize hgg : (fun q => (v q).toNat) = g at hg1 hglt
      (refine AC_begin (fun _ _ => Try.call83 _ _) Try.func83 rfl Try.ntmps83 Try.results83 (fun hwf => ?_); simp only [List.length_cons, List.length_nil, Nat.reduceAdd, Nat.reduceSub, List.replicate, List.cons_append, List.nil_append])
      (repeat (first | ((first | (refine And.intro ?_ ?_; focus (first | exact plain_agg (by simp only [go_sem]) | exact plain_two (by first | exact plain_agg (by simp only [go_sem]) | rfl) rfl | rfl)) | ((first | with_reducible apply callB_i | with_reducible apply callK_intro | with_reducible apply callQ_i); (focus (first | assumption | (with_reducible apply hcf <;> (first | assumption | rfl | (simp (disch := omega) only [go_sem]; first | done | rfl) | omega | decide | (simp; done))))); (try (focus (refine WP.mk ?_ ?_; (focus ((repeat (first | exact trivial | (refine And.intro ?_ ?_; (focus first | exact plainV_wf rfl | (refine plainV_wf (plain_agg ?_); simp only [go_sem]; done) | (simp only [wfV, wf1, wfC, List.length_append, List.length_cons, List.length_nil]; omega))))))); (focus (first | rfl | (refine plain_agg ?_; simp only [go_sem]; done) | (refine plain_two ?_ ?_ <;> first | rfl | (refine plain_agg ?_; simp only [go_sem]; done)))))))) | refine WA_seq (WA_region ?_) | refine WA_region ?_ | refine WA_exit ?_); try simp (maxSteps := 1000000) (disch := first | omega | rfl | decide | (simp only [List.length_cons, List.length_nil, List.length_append, Bs_length, Is_length, Vs_length, Bl_length, Il_length] <;> omega)) only [go_sem, Nat.reduceAdd, Int.reduceAdd, Int.reduceSub, Int.reduceMul, Bool.not_true, Bool.not_false, hd, Bool.not_true, yieldA_at 3 12]) | refine WA_seq ?_ | refine WA_block ?_ | (refine WA_skip ?_; try simp only [go_sem]) | (refine WA_ret ?_; try simp only [go_sem]) | refine WA_ct rfl ?_ | refine WA_cf rfl ?_))
      refine WA_forP (fun k => [(4, sl h.length 0 (basK g k).length 1), (6, J), (8, J), (16, J), (19, .int .i64 k), (20, J), (21, J), (22, J), (23, J), (24, J), (25, J), (26, J), (27, J), (28, J), (29, J), (30, J), (31, J), (32, J), (33, J), (34, J), (35, J), (36, J), (37, J), (38, J), (39, J), (40, J), (41, J)]) (fun k => [(0, ⟨Il (cI (basK g k)), true⟩)]) (n) ?_ ?_ ?_ <;> (try simp only [patT_cons, patT_nil, patL_cons, patL_nil, list_set_zero, list_set_succ, blk_set_zero, blk_set_succ])
      · rw [basK_zero]
        (refine Drop_slots (by first | exact Nat.le_refl _ | simp) ?_; focus ((try simp only [JL_same, JL_J, JL_nil, Int.reduceAdd, Nat.sub_sub, Int.natCast_add, Int.natCast_one, Int.natCast_zero, Int.cast_ofNat_Int, Nat.add_zero, Bool.false_eq_true, if_false, if_true, cI, Il, List.map_nil, List.length_nil]); (try exact JL_refl _)))
      · intro i hi
        have hBl := basK_le g i
        have hBlt := basK_lt hglt i (Nat.le_of_lt hi)
        have hgi := hglt i hi
        have hgv := hg1 i hi
        have hnx := basK_succ g i
        have hcl2 := cI_len (basK g i)
        generalize basK g i = B at *
        (repeat (first | ((first | (refine And.intro ?_ ?_; focus (first | exact plain_agg (by simp only [go_sem]) | exact plain_two (by first | exact plain_agg (by simp only [go_sem]) | rfl) rfl | rfl)) | refine WA_seq (WA_region ?_) | refine WA_region ?_ | refine WA_exit ?_); try simp (maxSteps := 1000000) (disch := first | omega | rfl | decide | (simp only [List.length_cons, List.length_nil, List.length_append, Bs_length, Is_length, Vs_length, Bl_length, Il_length] <;> omega)) only [go_sem, Nat.reduceAdd, Int.reduceAdd, Int.reduceSub, Int.reduceMul, Bool.not_true, Bool.not_false, look_old hb, hgv, yieldA_at 3 12]) | refine WA_seq ?_ | refine WA_block ?_ | (refine WA_skip ?_; try simp only [go_sem]) | (refine WA_ret ?_; try simp only [go_sem]) | refine WA_ct rfl ?_ | refine WA_cf rfl ?_))
        refine WA_forP (fun k => [(6, .int .i64 ((redP B (g i) k : Nat) : Int)), (8, J), (25, .int .i64 k), (26, J), (27, J), (28, J), (29, J), (30, J), (31, J), (32, J), (33, J), (34, J)]) (fun k => []) (B.length) ?_ ?_ ?_ <;> (try simp only [patT_cons, patT_nil, patL_cons, patL_nil, list_set_zero, list_set_succ, blk_set_zero, blk_set_succ])
        · rw [redP_zero]
          (refine Drop_slots (by first | exact Nat.le_refl _ | simp) ?_; focus ((try simp only [JL_same, JL_J, JL_nil, Int.reduceAdd, Nat.sub_sub, Int.natCast_add, Int.natCast_one, Int.natCast_zero, Int.cast_ofNat_Int, Nat.add_zero, Bool.false_eq_true, if_false, if_true]); (try exact JL_refl _)))
        · intro j hj
          have hr := redP_lt hBlt hgi j
          have hbj : B.getD j 0 < 4294967296 := by
            rw [List.getD_eq_getElem?_getD, List.getElem?_eq_getElem hj]
            exact hBlt _ (List.getElem_mem hj)
          have hcl : j < (cI B).length := by rw [cI_len]; exact hj
          (repeat (first | ((first | (refine And.intro ?_ ?_; focus (first | exact plain_agg (by simp only [go_sem]) | exact plain_two (by first | exact plain_agg (by simp only [go_sem]) | rfl) rfl | rfl)) | refine WA_seq (WA_region ?_) | refine WA_region ?_ | refine WA_exit ?_); try simp (maxSteps := 1000000) (disch := first | omega | rfl | decide | (simp only [List.length_cons, List.length_nil, List.length_append, Bs_length, Is_length, Vs_length, Bl_length, Il_length] <;> omega)) only [go_sem, Nat.reduceAdd, Int.reduceAdd, Int.reduceSub, Int.reduceMul, Bool.not_true, Bool.not_false, cI_len, cI_at hj, minI, yieldA_at 3 12]) | refine WA_seq ?_ | refine WA_block ?_ | (refine WA_skip ?_; try simp only [go_sem]) | (refine WA_ret ?_; try simp only [go_sem]) | refine WA_ct rfl ?_ | refine WA_cf rfl ?_))
          rw [redP_succ hj]
          (refine Drop_slots (by first | exact Nat.le_refl _ | simp) ?_; focus ((try simp only [JL_same, JL_J, JL_nil, Int.reduceAdd, Nat.sub_sub, Int.natCast_add, Int.natCast_one, Int.natCast_zero, Int.cast_ofNat_Int, Nat.add_zero, Bool.false_eq_true, if_false, if_true]); (try exact JL_refl _)))
        · rw [redP_all]
          have hlt := redB_lt hBlt hgi
          by_cases hz : redB B (g i) = 0
          · rw [hnx, if_pos hz]
            (repeat (first | ((first | (refine And.intro ?_ ?_; focus (first | exact plain_agg (by simp only [go_sem]) | exact plain_two (by first | exact plain_agg (by simp only [go_sem]) | rfl) rfl | rfl)) | refine WA_seq (WA_region ?_) | refine WA_region ?_ | refine WA_exit ?_); try simp (maxSteps := 1000000) (disch := first | omega | rfl | decide | (simp only [List.length_cons, List.length_nil, List.length_append, Bs_length, Is_length, Vs_length, Bl_length, Il_length] <;> omega)) only [go_sem, Nat.reduceAdd, Int.reduceAdd, Int.reduceSub, Int.reduceMul, Bool.not_true, Bool.not_false, hz, show (((0 : Nat) : Int) != 0) = false from rfl, yieldA_at 3 12]) | refine WA_seq ?_ | refine WA_block ?_ | (refine WA_skip ?_; try simp only [go_sem]) | (refine WA_ret ?_; try simp only [go_sem]) | refine WA_ct rfl ?_ | refine WA_cf rfl ?_))
            (refine Drop_slots (by first | exact Nat.le_refl _ | simp) ?_; focus ((try simp only [JL_same, JL_J, JL_nil, Int.reduceAdd, Nat.sub_sub, Int.natCast_add, Int.natCast_one, Int.natCast_zero, Int.cast_ofNat_Int, Nat.add_zero, Bool.false_eq_true, if_false, if_true]); (try exact JL_refl _)))
          · have hzb : (((redB B (g i) : Nat) : Int) != 0) = true := by rw [bne_iff_ne]; omega
            rw [hnx, if_neg hz]
            (repeat (first | ((first | (refine And.intro ?_ ?_; focus (first | exact plain_agg (by simp only [go_sem]) | exact plain_two (by first | exact plain_agg (by simp only [go_sem]) | rfl) rfl | rfl)) | refine WA_seq (WA_region ?_) | refine WA_region ?_ | refine WA_exit ?_); try simp (maxSteps := 1000000) (disch := first | omega | rfl | decide | (simp only [List.length_cons, List.length_nil, List.length_append, Bs_length, Is_length, Vs_length, Bl_length, Il_length] <;> omega)) only [go_sem, Nat.reduceAdd, Int.reduceAdd, Int.reduceSub, Int.reduceMul, Bool.not_true, Bool.not_false, hzb, lit1I, sub1, Il_snoc, cI_snoc, cI_len, yieldA_at 3 12]) | refine WA_seq ?_ | refine WA_block ?_ | (refine WA_skip ?_; try simp only [go_sem]) | (refine WA_ret ?_; try simp only [go_sem]) | refine WA_ct rfl ?_ | refine WA_cf rfl ?_))
            (refine Drop_gc [2] (by first | exact Nat.le_refl _ | first | assumption | omega | (simp only [List.length_append, List.length_cons, List.length_nil, List.length_replicate]; omega)) (by assumption) (by decide) ?_ ?_; (focus (repeat (first | exact trivial | (refine And.intro ⟨_, rfl, ?_⟩ ?_; (focus first | (refine Fit_plain ?_; simp only [go_sem, List.all_append, List.all_cons, List.all_nil, Bool.and_self]; done) | exact Fit_nil rfl | exact Fit_dead | (refine Fit_eq ?_ ?_; (focus simp only [go_sem, List.all_append, List.all_cons, List.all_nil, Bool.and_self]); (focus (first | rfl | (simp only [Int.natCast_add, Int.natCast_one, Int.natCast_zero, Int.cast_ofNat_Int, Nat.add_zero, List.length_append, List.length_cons, List.length_nil]; done) | (simp only [Int.natCast_add, Int.natCast_one, Int.natCast_zero, Int.cast_ofNat_Int, Nat.add_zero, List.length_append, List.length_cons, List.length_nil]; rfl))))))))); (focus (repeat (first | exact JR_nil | refine JR_J ?_ | (refine JR_plain ?_ ?_; (focus first | rfl | (refine plain_agg ?_; simp only [go_sem, List.all_append, List.all_cons, List.all_nil, Bool.and_self]; done))) | ((first | refine JR_pt ?_ ?_ ?_ | refine JR_sl ?_ ?_ ?_); (focus first | (rw [rhoF_new0]; rfl) | (rw [rhoF_new]; rfl) | (rw [rhoF_old]; first | assumption | omega)); (focus first | assumption | omega | (simp only [List.length_append, List.length_cons, List.length_nil, List.length_replicate]; omega))) | (refine JR_plain' ?_ ?_ ?_; (focus first | rfl | (refine plain_agg ?_; simp only [go_sem, List.all_append, List.all_cons, List.all_nil, Bool.and_self]; done)); (focus (first | rfl | (simp only [Int.natCast_add, Int.natCast_one, Int.natCast_zero, Int.cast_ofNat_Int, Nat.add_zero, List.length_append, List.length_cons, List.length_nil]; done) | (simp only [Int.natCast_add, Int.natCast_one, Int.natCast_zero, Int.cast_ofNat_Int, Nat.add_zero, List.length_append, List.length_cons, List.length_nil]; rfl)))) | (refine JR_sl' ?_ ?_ ?_ ?_; (focus first | (rw [rhoF_new0]; rfl) | (rw [rhoF_new]; rfl) | (rw [rhoF_old]; first | assumption | omega)); (focus first | assumption | omega | (simp only [List.length_append, List.length_cons, List.length_nil, List.length_replicate]; omega)); (focus first | rfl | omega | (first | rfl | (simp only [Int.natCast_add, Int.natCast_one, Int.natCast_zero, Int.cast_ofNat_Int, Nat.add_zero, List.length_append, List.length_cons, List.length_nil]; done) | (simp only [Int.natCast_add, Int.natCast_one, Int.natCast_zero, Int.cast_ofNat_Int, Nat.add_zero, List.length_append, List.length_cons, List.length_nil]; rfl))))))))
      · have hle := basK_le g n
        (repeat (first | ((first | (refine And.intro ?_ ?_; focus (first | exact plain_agg (by simp only [go_sem]) | exact plain_two (by first | exact plain_agg (by simp only [go_sem]) | rfl) rfl | rfl)) | ((first | with_reducible apply callB_i | with_reducible apply callK_intro | with_reducible apply callQ_i); (focus (first | assumption | (with_reducible apply lenI64_ac _ (show (basK g n).length ≤ 1048576 by omega) <;> (first | assumption | rfl | (simp (disch := omega) only [go_sem]; first | done | rfl) | omega | decide | (simp; done))))); (try (focus (refine WP.mk ?_ ?_; (focus ((repeat (first | exact trivial | (refine And.intro ?_ ?_; (focus first | exact plainV_wf rfl | (refine plainV_wf (plain_agg ?_); simp only [go_sem]; done) | (simp only [wfV, wf1, wfC, List.length_append, List.length_cons, List.length_nil]; omega))))))); (focus (first | rfl | (refine plain_agg ?_; simp only [go_sem]; done) | (refine plain_two ?_ ?_ <;> first | rfl | (refine plain_agg ?_; simp only [go_sem]; done)))))))) | refine WA_seq (WA_region ?_) | refine WA_region ?_ | refine WA_exit ?_); try simp (maxSteps := 1000000) (disch := first | omega | rfl | decide | (simp only [List.length_cons, List.length_nil, List.length_append, Bs_length, Is_length, Vs_length, Bl_length, Il_length] <;> omega)) only [go_sem, Nat.reduceAdd, Int.reduceAdd, Int.reduceSub, Int.reduceMul, Bool.not_true, Bool.not_false, yieldA_at 3 12]) | refine WA_seq ?_ | refine WA_block ?_ | (refine WA_skip ?_; try simp only [go_sem]) | (refine WA_ret ?_; try simp only [go_sem]) | refine WA_ct rfl ?_ | refine WA_cf rfl ?_))
        ((first | refine ret_none (by first | exact .inr rfl | exact .inl rfl) ?_ | refine ret_same (by first | exact .inr rfl | exact .inl rfl) ?_ (by first | rfl | exact plain_agg (by simp only [go_sem]) | exact plain_two (by first | exact plain_agg (by simp only [go_sem]) | rfl) (by first | exact plain_agg (by simp only [go_sem]) | rfl)) | refine ret_full (by first | exact .inr rfl | exact .inl rfl) (by simp) ?_); simp (maxSteps := 1000000) (disch := first | omega | rfl | decide | (simp only [List.length_cons, List.length_nil, List.length_append, Bs_length, Is_length, Vs_length, Bl_length, Il_length] <;> omega)) only [go_sem, Nat.reduceAdd, Int.reduceAdd, Int.reduceSub, Int.reduceMul, Bool.not_true, Bool.not_false, basK_all]; try rfl)
  · have hd : decide (200 < n) = true := decide_eq_true (by omega)
    (refine AC_begin (fun _ _ => Try.call83 _ _) Try.func83 rfl Try.ntmps83 Try.results83 (fun hwf => ?_); simp only [List.length_cons, List.length_nil, Nat.reduceAdd, Nat.reduceSub, List.replicate, List.cons_append, List.nil_append])
    (repeat (first | ((first | (refine And.intro ?_ ?_; focus (first | exact plain_agg (by simp only [go_sem]) | exact plain_two (by first | exact plain_agg (by simp only [go_sem]) | rfl) rfl | rfl)) | refine WA_seq (WA_region ?_) | refine WA_region ?_ | refine WA_exit ?_); try simp (maxSteps := 1000000) (disch := first | omega | rfl | decide | (simp only [List.length_cons, List.length_nil, List.length_append, Bs_length, Is_length, Vs_length, Bl_length, Il_length] <;> omega)) only [go_sem, Nat.reduceAdd, Int.reduceAdd, Int.reduceSub, Int.reduceMul, Bool.not_true, Bool.not_false, hd, yieldA_at 3 12]) | refine WA_seq ?_ | refine WA_block ?_ | (refine WA_skip ?_; try simp only [go_sem]) | (refine WA_ret ?_; try simp only [go_sem]) | refine WA_ct rfl ?_ | refine WA_cf rfl ?_))
    ((first | refine ret_none (by first | exact .inr rfl | exact .inl rfl) ?_ | refine ret_same (by first | exact .inr rfl | exact .inl rfl) ?_ (by first | rfl | exact plain_agg (by simp only [go_sem]) | exact plain_two (by first | exact plain_agg (by simp only [go_sem]) | rfl) (by first | exact plain_agg (by simp only [go_sem]) | rfl)) | refine ret_full (by first | exact .inr rfl | exact .inl rfl) (by simp) ?_); simp (maxSteps := 1000000) (disch := first | omega | rfl | decide | (simp only [List.length_cons, List.length_nil, List.length_append, Bs_length, Is_length, Vs_length, Bl_length, Il_length] <;> omega)) only [go_sem, Nat.reduceAdd, Int.reduceAdd, Int.reduceSub, Int.reduceMul, Bool.not_true, Bool.not_false, rkV, rkC, show decide (n ≤ 200) = false from decide_eq_false h200, Bool.false_and, cond_false]; try rfl)

theorem ownS0_ac {v : Nat → Int} {n : Nat} {h : List Blk} {b : Nat} {r : Bool} (hb : h[b]? = some ⟨Is n v, r⟩) (hn : n ≤ 1048576) : AC Try.prog 185 [sl b 0 n 1] h (sl (h.length + 1) 0 n 1) (h ++ [dead, ⟨Is n v, true⟩]) := by
  have hbl := blt hb
  (refine AC_begin (fun _ _ => Try.call185 _ _) Try.func185 rfl Try.ntmps185 Try.results185 (fun hwf => ?_); simp only [List.length_cons, List.length_nil, Nat.reduceAdd, Nat.reduceSub, List.replicate, List.cons_append, List.nil_append])
  (repeat (first | ((first | (refine And.intro ?_ ?_; focus (first | exact plain_agg (by simp only [go_sem]) | exact plain_two (by first | exact plain_agg (by simp only [go_sem]) | rfl) rfl | rfl)) | refine WA_seq (WA_region ?_) | refine WA_region ?_ | refine WA_exit ?_); try simp (maxSteps := 1000000) (disch := first | omega | rfl | decide | (simp only [List.length_cons, List.length_nil, List.length_append, Bs_length, Is_length, Vs_length, Bl_length, Il_length] <;> omega)) only [go_sem, Nat.reduceAdd, Int.reduceAdd, Int.reduceSub, Int.reduceMul, Bool.not_true, Bool.not_false, look_old hb]) | refine WA_seq ?_ | refine WA_block ?_ | (refine WA_skip ?_; try simp only [go_sem]) | (refine WA_ret ?_; try simp only [go_sem]) | refine WA_ct rfl ?_ | refine WA_cf rfl ?_))
  ((first | refine ret_none (by first | exact .inr rfl | exact .inl rfl) ?_ | refine ret_same (by first | exact .inr rfl | exact .inl rfl) ?_ (by first | rfl | exact plain_agg (by simp only [go_sem]) | exact plain_two (by first | exact plain_agg (by simp only [go_sem]) | rfl) (by first | exact plain_agg (by simp only [go_sem]) | rfl)) | refine ret_full (by first | exact .inr rfl | exact .inl rfl) (by simp) ?_); simp (maxSteps := 1000000) (disch := first | omega | rfl | decide | (simp only [List.length_cons, List.length_nil, List.length_append, Bs_length, Is_length, Vs_length, Bl_length, Il_length] <;> omega)) only [go_sem, Nat.reduceAdd, Int.reduceAdd, Int.reduceSub, Int.reduceMul, Bool.not_true, Bool.not_false]; try rfl)
theorem ownS_ac {v : Nat → Int} {n : Nat} {h : List Blk} {b : Nat} {r : Bool} (hb : h[b]? = some ⟨Is n v, r⟩) (hn : n ≤ 1048576) : AC Try.prog 185 [sl b 0 n 1] h (sl h.length 0 n 1) (h ++ [⟨Is n v, true⟩]) := by
  (refine AC_gc [1] (ownS0_ac hb hn) (by decide) ?_ ?_ ?_; (focus (repeat (first | exact trivial | (refine And.intro ⟨_, rfl, ?_⟩ ?_; (focus first | (refine Fit_plain ?_; simp only [go_sem, List.all_append, List.all_cons, List.all_nil, Bool.and_self]; done) | exact Fit_nil rfl | exact Fit_dead | (refine Fit_eq ?_ ?_; (focus simp only [go_sem, List.all_append, List.all_cons, List.all_nil, Bool.and_self]); (focus (first | rfl | (simp only [Int.natCast_add, Int.natCast_one, Int.natCast_zero, Int.cast_ofNat_Int, Nat.add_zero]; done) | (simp only [Int.natCast_add, Int.natCast_one, Int.natCast_zero, Int.cast_ofNat_Int, Nat.add_zero]; rfl))))))))); (focus first | (refine renV_sl ?_; first | (rw [rhoF_new0]; rfl) | (rw [rhoF_new]; rfl) | (rw [rhoF_old]; first | assumption | omega)) | (refine renV_pt ?_; first | (rw [rhoF_new0]; rfl) | (rw [rhoF_new]; rfl) | (rw [rhoF_old]; first | assumption | omega)) | (refine renV_two ?_ ?_; (focus first | (refine ren1_sl ?_; first | (rw [rhoF_new0]; rfl) | (rw [rhoF_new]; rfl) | (rw [rhoF_old]; first | assumption | omega)) | rfl); (focus rfl)) | rfl | (refine (renV_plain ?_).symm; first | rfl | (refine plain_agg ?_; simp only [go_sem, List.all_append, List.all_cons, List.all_nil, Bool.and_self]; done))); (focus first | (simp only [wfV, wf1, wfC, List.length_append, List.length_cons, List.length_nil]; omega) | (refine wfV_two ?_ ?_; (focus simp only [wf1, wfC, List.length_append, List.length_cons, List.length_nil]; omega); (focus trivial)) | (refine plainV_wf ?_; (focus first | rfl | (refine plain_agg ?_; simp only [go_sem, List.all_append, List.all_cons, List.all_nil, Bool.and_self]; done)); done)))

theorem updI (g : Nat → Nat) (i x : Nat) : upd (fun q => ((g q : Nat) : Int)) i ((x : Nat) : Int) = fun q => ((upd g i x q : Nat) : Int) := by
  funext q; unfold upd; split <;> rfl
theorem rkbS_ac {v : Nat → Int} {n : Nat} {h : List Blk} {b : Nat} {r : Bool} (hb : h[b]? = some ⟨Is n v, r⟩) (hn : n ≤ 1048576) :
    AC Try.prog 90 [sl b 0 n 1] h (.tuple #[.int .i64 (rkV v n), .int .i64 (rkC v n)]) h := by
  have hbl := blt hb
  by_cases h200 : n ≤ 200
  · have hd : decide (200 < n) = false := decide_eq_false (by omega)
    rcases bad_first (fun j => inR (v j) 0 4294967295) n with ho | ⟨q, hq, ho, hz⟩
    · have hok := okV_t ho
      have hg := Is_nat hok
      have hg1 := fun j hj => (hg j hj).1
      have hglt : ∀ q, q < n → (fun q => (v q).toNat) q < 4294967296 := fun j hj => (hg j hj).2
      have hV : rkV v n = ((rankB (fun q => (v q).toNat) n : Nat) : Int) := by unfold rkV; rw [hok, decide_eq_true h200]; rfl
      have hC : rkC v n = 0 := by unfold rkC; rw [hok, decide_eq_true h200]; rfl
      rw [hV, hC]
      generalize hgg : (fun q => (v q).toNat) = g at hg1 hglt
      rw [← rankB_spec]
      have hIs : Is n v = Is n fun q => ((g q : Nat) : Int) := Is_congr hg1
      (refine AC_begin (fun _ _ => Try.call90 _ _) Try.func90 rfl Try.ntmps90 Try.results90 (fun hwf => ?_); simp only [List.length_cons, List.length_nil, Nat.reduceAdd, Nat.reduceSub, List.replicate, List.cons_append, List.nil_append])
      (repeat (first | ((first | (refine And.intro ?_ ?_; focus (first | exact plain_agg (by simp only [go_sem]) | exact plain_two (by first | exact plain_agg (by simp only [go_sem]) | rfl) rfl | rfl)) | ((first | with_reducible apply callB_i | with_reducible apply callK_intro | with_reducible apply callQ_i); (focus (first | assumption | (with_reducible apply ownS_ac hb hn <;> (first | assumption | rfl | (simp (disch := omega) only [go_sem]; first | done | rfl) | omega | decide | (simp; done))))); (try (focus (refine WP.mk ?_ ?_; (focus ((repeat (first | exact trivial | (refine And.intro ?_ ?_; (focus first | exact plainV_wf rfl | (refine plainV_wf (plain_agg ?_); simp only [go_sem]; done) | (simp only [wfV, wf1, wfC, List.length_append, List.length_cons, List.length_nil]; omega))))))); (focus (first | rfl | (refine plain_agg ?_; simp only [go_sem]; done) | (refine plain_two ?_ ?_ <;> first | rfl | (refine plain_agg ?_; simp only [go_sem]; done)))))))) | refine WA_seq (WA_region ?_) | refine WA_region ?_ | refine WA_exit ?_); try simp (maxSteps := 1000000) (disch := first | omega | rfl | decide | (simp only [List.length_cons, List.length_nil, List.length_append, Bs_length, Is_length, Vs_length, Bl_length, Il_length] <;> omega)) only [go_sem, Nat.reduceAdd, Int.reduceAdd, Int.reduceSub, Int.reduceMul, Bool.not_true, Bool.not_false, hd]) | refine WA_seq ?_ | refine WA_block ?_ | (refine WA_skip ?_; try simp only [go_sem]) | (refine WA_ret ?_; try simp only [go_sem]) | refine WA_ct rfl ?_ | refine WA_cf rfl ?_))
      refine WA_forP (fun k => [(2, J), (3, J), (6, .int .i64 k), (16, J), (17, J), (18, J), (19, J), (20, J), (21, J), (22, J), (23, J), (24, J), (25, J), (26, J), (27, J)]) (fun k => []) (n) ?_ ?_ ?_ <;> (try simp only [patT_cons, patT_nil, patL_cons, patL_nil, list_set_zero, list_set_succ, blk_set_zero, blk_set_succ])
      · (refine Drop_slots (by first | exact Nat.le_refl _ | simp) ?_; focus ((try simp only [JL_same, JL_J, JL_nil, Int.reduceAdd, Nat.sub_sub, Int.natCast_add, Int.natCast_one, Int.natCast_zero, Int.cast_ofNat_Int, Nat.add_zero, Bool.false_eq_true, if_false, if_true]); (try exact JL_refl _)))
      · intro k hk
        have hk2 := inS_ac (v k) 0 4294967295
        rw [ho k hk] at hk2
        (repeat (first | ((first | (refine And.intro ?_ ?_; focus (first | exact plain_agg (by simp only [go_sem]) | exact plain_two (by first | exact plain_agg (by simp only [go_sem]) | rfl) rfl | rfl)) | ((first | with_reducible apply callB_i | with_reducible apply callK_intro | with_reducible apply callQ_i); (focus (first | assumption | (with_reducible apply hk2 <;> (first | assumption | rfl | (simp (disch := omega) only [go_sem]; first | done | rfl) | omega | decide | (simp; done))))); (try (focus (refine WP.mk ?_ ?_; (focus ((repeat (first | exact trivial | (refine And.intro ?_ ?_; (focus first | exact plainV_wf rfl | (refine plainV_wf (plain_agg ?_); simp only [go_sem]; done) | (simp only [wfV, wf1, wfC, List.length_append, List.length_cons, List.length_nil]; omega))))))); (focus (first | rfl | (refine plain_agg ?_; simp only [go_sem]; done) | (refine plain_two ?_ ?_ <;> first | rfl | (refine plain_agg ?_; simp only [go_sem]; done)))))))) | refine WA_seq (WA_region ?_) | refine WA_region ?_ | refine WA_exit ?_); try simp (maxSteps := 1000000) (disch := first | omega | rfl | decide | (simp only [List.length_cons, List.length_nil, List.length_append, Bs_length, Is_length, Vs_length, Bl_length, Il_length] <;> omega)) only [go_sem, Nat.reduceAdd, Int.reduceAdd, Int.reduceSub, Int.reduceMul, Bool.not_true, Bool.not_false, Bool.not_true]) | refine WA_seq ?_ | refine WA_block ?_ | (refine WA_skip ?_; try simp only [go_sem]) | (refine WA_ret ?_; try simp only [go_sem]) | refine WA_ct rfl ?_ | refine WA_cf rfl ?_))
        (refine Drop_slots (by first | exact Nat.le_refl _ | simp) ?_; focus ((try simp only [JL_same, JL_J, JL_nil, Int.reduceAdd, Nat.sub_sub, Int.natCast_add, Int.natCast_one, Int.natCast_zero, Int.cast_ofNat_Int, Nat.add_zero, Bool.false_eq_true, if_false, if_true]); (try exact JL_refl _)))
      · rw [hIs]
        (repeat (first | ((first | (refine And.intro ?_ ?_; focus (first | exact plain_agg (by simp only [go_sem]) | exact plain_two (by first | exact plain_agg (by simp only [go_sem]) | rfl) rfl | rfl)) | refine WA_seq (WA_region ?_) | refine WA_region ?_ | refine WA_exit ?_); try simp (maxSteps := 1000000) (disch := first | omega | rfl | decide | (simp only [List.length_cons, List.length_nil, List.length_append, Bs_length, Is_length, Vs_length, Bl_length, Il_length] <;> omega)) only [go_sem, Nat.reduceAdd, Int.reduceAdd, Int.reduceSub, Int.reduceMul, Bool.not_true, Bool.not_false]) | refine WA_seq ?_ | refine WA_block ?_ | (refine WA_skip ?_; try simp only [go_sem]) | (refine WA_ret ?_; try simp only [go_sem]) | refine WA_ct rfl ?_ | refine WA_cf rfl ?_))
        refine WA_forP (fun k => [(5, .int .i64 (((rbS g k).r : Nat) : Int)), (7, .int .i64 k), (8, J), (9, J), (10, J), (28, J), (29, J), (30, J), (31, J), (32, J), (33, J), (34, J), (35, J), (36, J), (37, J), (38, J), (39, J), (40, J), (41, J), (42, J), (43, J), (44, J), (45, J), (46, J), (47, J), (48, J), (49, J), (50, J), (51, J), (52, J), (53, J), (54, J), (55, J), (56, J), (57, J), (58, J), (59, J), (60, J), (61, J), (62, J), (63, J), (64, J), (65, J), (66, J), (67, J), (68, J), (69, J)]) (fun k => [(0, ⟨Is n fun q => (((rbS g k).g q : Nat) : Int), true⟩)]) (n) ?_ ?_ ?_ <;> (try simp only [patT_cons, patT_nil, patL_cons, patL_nil, list_set_zero, list_set_succ, blk_set_zero, blk_set_succ])
        · (refine Drop_slots (by first | exact Nat.le_refl _ | simp) ?_; focus ((try simp only [JL_same, JL_J, JL_nil, Int.reduceAdd, Nat.sub_sub, Int.natCast_add, Int.natCast_one, Int.natCast_zero, Int.cast_ofNat_Int, Nat.add_zero, Bool.false_eq_true, if_false, if_true, show (rbS g 0).r = 0 from rfl, show (rbS g 0).g = g from rfl]); (try exact JL_refl _)))
        · intro i hi
          have hlt := rbS_lt hglt i (Nat.le_of_lt hi)
          have hrl := rbS_le g i
          have hnx : rbS g (i + 1) = if (rbS g i).g i = 0 then rbS g i else ⟨clrF (rbS g i).g i, (rbS g i).r + 1⟩ := rfl
          rw [hnx]
          generalize rbS g i = S at *
          obtain ⟨G, rr⟩ := S
          simp only [] at hlt hrl ⊢
          have hGi := hlt i hi
          by_cases hz : G i = 0
          · rw [if_pos hz]
            (repeat (first | ((first | (refine And.intro ?_ ?_; focus (first | exact plain_agg (by simp only [go_sem]) | exact plain_two (by first | exact plain_agg (by simp only [go_sem]) | rfl) rfl | rfl)) | refine WA_seq (WA_region ?_) | refine WA_region ?_ | refine WA_exit ?_); try simp (maxSteps := 1000000) (disch := first | omega | rfl | decide | (simp only [List.length_cons, List.length_nil, List.length_append, Bs_length, Is_length, Vs_length, Bl_length, Il_length] <;> omega)) only [go_sem, Nat.reduceAdd, Int.reduceAdd, Int.reduceSub, Int.reduceMul, Bool.not_true, Bool.not_false, hz, beq_self_eq_true, show (((0 : Nat) : Int) == 0) = true from rfl]) | refine WA_seq ?_ | refine WA_block ?_ | (refine WA_skip ?_; try simp only [go_sem]) | (refine WA_ret ?_; try simp only [go_sem]) | refine WA_ct rfl ?_ | refine WA_cf rfl ?_))
            (refine Drop_slots (by first | exact Nat.le_refl _ | simp) ?_; focus ((try simp only [JL_same, JL_J, JL_nil, Int.reduceAdd, Nat.sub_sub, Int.natCast_add, Int.natCast_one, Int.natCast_zero, Int.cast_ofNat_Int, Nat.add_zero, Bool.false_eq_true, if_false, if_true]); (try exact JL_refl _)))
          · have hzb : (((G i : Nat) : Int) == 0) = false := by rw [beq_eq_false_iff_ne]; omega
            have hll := low_lt hz hGi
            have hbl2 := bits_low hz hGi
            have hwn : IntKind.i64.wrap (0 - ((G i : Nat) : Int)) = -((G i : Nat) : Int) := by rw [Int.zero_sub]; exact wrap_i64 (by omega) (by omega)
            rw [if_neg hz]
            simp only []
            (repeat (first | ((first | (refine And.intro ?_ ?_; focus (first | exact plain_agg (by simp only [go_sem]) | exact plain_two (by first | exact plain_agg (by simp only [go_sem]) | rfl) rfl | rfl)) | refine WA_seq (WA_region ?_) | refine WA_region ?_ | refine WA_exit ?_); try simp (maxSteps := 1000000) (disch := first | omega | rfl | decide | (simp only [List.length_cons, List.length_nil, List.length_append, Bs_length, Is_length, Vs_length, Bl_length, Il_length] <;> omega)) only [go_sem, Nat.reduceAdd, Int.reduceAdd, Int.reduceSub, Int.reduceMul, Bool.not_true, Bool.not_false, hzb, hwn, hbl2]) | refine WA_seq ?_ | refine WA_block ?_ | (refine WA_skip ?_; try simp only [go_sem]) | (refine WA_ret ?_; try simp only [go_sem]) | refine WA_ct rfl ?_ | refine WA_cf rfl ?_))
            refine WA_forP (fun k => [(10, .int .i64 ((i + 1 + k : Nat) : Int)), (48, J), (49, J), (50, J), (51, J), (52, J), (53, J), (54, J), (55, J), (56, J), (57, J), (58, J), (59, J), (60, J), (61, J), (62, J), (63, J), (64, J), (65, J), (66, J), (67, J), (68, J), (69, J)]) (fun k => [(0, ⟨Is n fun q => ((clrP G i k q : Nat) : Int), true⟩)]) (n - (i + 1)) ?_ ?_ ?_ <;> (try simp only [patT_cons, patT_nil, patL_cons, patL_nil, list_set_zero, list_set_succ, blk_set_zero, blk_set_succ])
            · rw [clrP_zero]
              (refine Drop_slots (by first | exact Nat.le_refl _ | simp) ?_; focus ((try simp only [JL_same, JL_J, JL_nil, Int.reduceAdd, Nat.sub_sub, Int.natCast_add, Int.natCast_one, Int.natCast_zero, Int.cast_ofNat_Int, Nat.add_zero, Bool.false_eq_true, if_false, if_true]); (try exact JL_refl _)))
            · intro t ht
              have hti : i + 1 + t < n := by omega
              have hgt := hlt (i + 1 + t) hti
              have ha := bits_and_N (a := G (i + 1 + t)) (b := 2 ^ lowN (G i)) (by omega) (by omega)
              have hx := bits_xor_N (a := G (i + 1 + t)) (b := G i) (by omega) (by omega)
              cases hbt : (G (i + 1 + t)).testBit (lowN (G i))
              · (repeat (first | ((first | (refine And.intro ?_ ?_; focus (first | exact plain_agg (by simp only [go_sem]) | exact plain_two (by first | exact plain_agg (by simp only [go_sem]) | rfl) rfl | rfl)) | refine WA_seq (WA_region ?_) | refine WA_region ?_ | refine WA_exit ?_); try simp (maxSteps := 1000000) (disch := first | omega | rfl | decide | (simp only [List.length_cons, List.length_nil, List.length_append, Bs_length, Is_length, Vs_length, Bl_length, Il_length] <;> omega)) only [go_sem, Nat.reduceAdd, Int.reduceAdd, Int.reduceSub, Int.reduceMul, Bool.not_true, Bool.not_false, decide_eq_true hti, clrP_at, ha, and_low, hbt]) | refine WA_seq ?_ | refine WA_block ?_ | (refine WA_skip ?_; try simp only [go_sem]) | (refine WA_ret ?_; try simp only [go_sem]) | refine WA_ct rfl ?_ | refine WA_cf rfl ?_))
                rw [← clrP_skip G i t hbt]
                (refine Drop_slots (by first | exact Nat.le_refl _ | simp) ?_; focus ((try simp only [JL_same, JL_J, JL_nil, Int.reduceAdd, Nat.sub_sub, Int.natCast_add, Int.natCast_one, Int.natCast_zero, Int.cast_ofNat_Int, Nat.add_zero, Bool.false_eq_true, if_false, if_true, Nat.add_assoc]); (try exact JL_refl _)))
              · (repeat (first | ((first | (refine And.intro ?_ ?_; focus (first | exact plain_agg (by simp only [go_sem]) | exact plain_two (by first | exact plain_agg (by simp only [go_sem]) | rfl) rfl | rfl)) | refine WA_seq (WA_region ?_) | refine WA_region ?_ | refine WA_exit ?_); try simp (maxSteps := 1000000) (disch := first | omega | rfl | decide | (simp only [List.length_cons, List.length_nil, List.length_append, Bs_length, Is_length, Vs_length, Bl_length, Il_length] <;> omega)) only [go_sem, Nat.reduceAdd, Int.reduceAdd, Int.reduceSub, Int.reduceMul, Bool.not_true, Bool.not_false, decide_eq_true hti, clrP_at, ha, and_low, hbt, hx, updI, clrP_set G i t hbt]) | refine WA_seq ?_ | refine WA_block ?_ | (refine WA_skip ?_; try simp only [go_sem]) | (refine WA_ret ?_; try simp only [go_sem]) | refine WA_ct rfl ?_ | refine WA_cf rfl ?_))
                (refine Drop_slots (by first | exact Nat.le_refl _ | simp) ?_; focus ((try simp only [JL_same, JL_J, JL_nil, Int.reduceAdd, Nat.sub_sub, Int.natCast_add, Int.natCast_one, Int.natCast_zero, Int.cast_ofNat_Int, Nat.add_zero, Bool.false_eq_true, if_false, if_true, Nat.add_assoc]); (try exact JL_refl _)))
            · have hend : decide (i + 1 + (n - (i + 1)) < n) = false := decide_eq_false (by omega)
              have hIc : Is n (fun q => ((clrP G i (n - (i + 1)) q : Nat) : Int)) = Is n fun q => ((clrF G i q : Nat) : Int) := Is_congr fun q hq => by
                unfold clrP; rw [if_pos (by omega)]
              rw [hIc]
              (repeat (first | ((first | (refine And.intro ?_ ?_; focus (first | exact plain_agg (by simp only [go_sem]) | exact plain_two (by first | exact plain_agg (by simp only [go_sem]) | rfl) rfl | rfl)) | refine WA_seq (WA_region ?_) | refine WA_region ?_ | refine WA_exit ?_); try simp (maxSteps := 1000000) (disch := first | omega | rfl | decide | (simp only [List.length_cons, List.length_nil, List.length_append, Bs_length, Is_length, Vs_length, Bl_length, Il_length] <;> omega)) only [go_sem, Nat.reduceAdd, Int.reduceAdd, Int.reduceSub, Int.reduceMul, Bool.not_true, Bool.not_false, hend]) | refine WA_seq ?_ | refine WA_block ?_ | (refine WA_skip ?_; try simp only [go_sem]) | (refine WA_ret ?_; try simp only [go_sem]) | refine WA_ct rfl ?_ | refine WA_cf rfl ?_))
              (refine Drop_slots (by first | exact Nat.le_refl _ | simp) ?_; focus ((try simp only [JL_same, JL_J, JL_nil, Int.reduceAdd, Nat.sub_sub, Int.natCast_add, Int.natCast_one, Int.natCast_zero, Int.cast_ofNat_Int, Nat.add_zero, Bool.false_eq_true, if_false, if_true]); (try exact JL_refl _)))
        · (repeat (first | ((first | (refine And.intro ?_ ?_; focus (first | exact plain_agg (by simp only [go_sem]) | exact plain_two (by first | exact plain_agg (by simp only [go_sem]) | rfl) rfl | rfl)) | refine WA_seq (WA_region ?_) | refine WA_region ?_ | refine WA_exit ?_); try simp (maxSteps := 1000000) (disch := first | omega | rfl | decide | (simp only [List.length_cons, List.length_nil, List.length_append, Bs_length, Is_length, Vs_length, Bl_length, Il_length] <;> omega)) only [go_sem, Nat.reduceAdd, Int.reduceAdd, Int.reduceSub, Int.reduceMul, Bool.not_true, Bool.not_false]) | refine WA_seq ?_ | refine WA_block ?_ | (refine WA_skip ?_; try simp only [go_sem]) | (refine WA_ret ?_; try simp only [go_sem]) | refine WA_ct rfl ?_ | refine WA_cf rfl ?_))
          ((first | refine ret_none (by first | exact .inr rfl | exact .inl rfl) ?_ | refine ret_same (by first | exact .inr rfl | exact .inl rfl) ?_ (by first | rfl | exact plain_agg (by simp only [go_sem]) | exact plain_two (by first | exact plain_agg (by simp only [go_sem]) | rfl) (by first | exact plain_agg (by simp only [go_sem]) | rfl)) | refine ret_full (by first | exact .inr rfl | exact .inl rfl) (by simp) ?_); simp (maxSteps := 1000000) (disch := first | omega | rfl | decide | (simp only [List.length_cons, List.length_nil, List.length_append, Bs_length, Is_length, Vs_length, Bl_length, Il_length] <;> omega)) only [go_sem, Nat.reduceAdd, Int.reduceAdd, Int.reduceSub, Int.reduceMul, Bool.not_true, Bool.not_false]; try rfl)
    · have hV : rkV v n = 0 := by unfold rkV; rw [okV_f hq hz, Bool.and_false]; rfl
      have hC : rkC v n = 2 := by unfold rkC; rw [okV_f hq hz, Bool.and_false]; rfl
      rw [hV, hC]
      (refine AC_begin (fun _ _ => Try.call90 _ _) Try.func90 rfl Try.ntmps90 Try.results90 (fun hwf => ?_); simp only [List.length_cons, List.length_nil, Nat.reduceAdd, Nat.reduceSub, List.replicate, List.cons_append, List.nil_append])
      (repeat (first | ((first | (refine And.intro ?_ ?_; focus (first | exact plain_agg (by simp only [go_sem]) | exact plain_two (by first | exact plain_agg (by simp only [go_sem]) | rfl) rfl | rfl)) | ((first | with_reducible apply callB_i | with_reducible apply callK_intro | with_reducible apply callQ_i); (focus (first | assumption | (with_reducible apply ownS_ac hb hn <;> (first | assumption | rfl | (simp (disch := omega) only [go_sem]; first | done | rfl) | omega | decide | (simp; done))))); (try (focus (refine WP.mk ?_ ?_; (focus ((repeat (first | exact trivial | (refine And.intro ?_ ?_; (focus first | exact plainV_wf rfl | (refine plainV_wf (plain_agg ?_); simp only [go_sem]; done) | (simp only [wfV, wf1, wfC, List.length_append, List.length_cons, List.length_nil]; omega))))))); (focus (first | rfl | (refine plain_agg ?_; simp only [go_sem]; done) | (refine plain_two ?_ ?_ <;> first | rfl | (refine plain_agg ?_; simp only [go_sem]; done)))))))) | refine WA_seq (WA_region ?_) | refine WA_region ?_ | refine WA_exit ?_); try simp (maxSteps := 1000000) (disch := first | omega | rfl | decide | (simp only [List.length_cons, List.length_nil, List.length_append, Bs_length, Is_length, Vs_length, Bl_length, Il_length] <;> omega)) only [go_sem, Nat.reduceAdd, Int.reduceAdd, Int.reduceSub, Int.reduceMul, Bool.not_true, Bool.not_false, hd]) | refine WA_seq ?_ | refine WA_block ?_ | (refine WA_skip ?_; try simp only [go_sem]) | (refine WA_ret ?_; try simp only [go_sem]) | refine WA_ct rfl ?_ | refine WA_cf rfl ?_))
      refine WA_forP (fun k => [(2, J), (3, J), (6, .int .i64 k), (16, J), (17, J), (18, J), (19, J), (20, J), (21, J), (22, J), (23, J), (24, J), (25, J), (26, J), (27, J)]) (fun k => []) (q) ?_ ?_ ?_ <;> (try simp only [patT_cons, patT_nil, patL_cons, patL_nil, list_set_zero, list_set_succ, blk_set_zero, blk_set_succ])
      · (refine Drop_slots (by first | exact Nat.le_refl _ | simp) ?_; focus ((try simp only [JL_same, JL_J, JL_nil, Int.reduceAdd, Nat.sub_sub, Int.natCast_add, Int.natCast_one, Int.natCast_zero, Int.cast_ofNat_Int, Nat.add_zero, Bool.false_eq_true, if_false, if_true]); (try exact JL_refl _)))
      · intro k hk
        have hk2 := inS_ac (v k) 0 4294967295
        rw [ho k hk] at hk2
        (repeat (first | ((first | (refine And.intro ?_ ?_; focus (first | exact plain_agg (by simp only [go_sem]) | exact plain_two (by first | exact plain_agg (by simp only [go_sem]) | rfl) rfl | rfl)) | ((first | with_reducible apply callB_i | with_reducible apply callK_intro | with_reducible apply callQ_i); (focus (first | assumption | (with_reducible apply hk2 <;> (first | assumption | rfl | (simp (disch := omega) only [go_sem]; first | done | rfl) | omega | decide | (simp; done))))); (try (focus (refine WP.mk ?_ ?_; (focus ((repeat (first | exact trivial | (refine And.intro ?_ ?_; (focus first | exact plainV_wf rfl | (refine plainV_wf (plain_agg ?_); simp only [go_sem]; done) | (simp only [wfV, wf1, wfC, List.length_append, List.length_cons, List.length_nil]; omega))))))); (focus (first | rfl | (refine plain_agg ?_; simp only [go_sem]; done) | (refine plain_two ?_ ?_ <;> first | rfl | (refine plain_agg ?_; simp only [go_sem]; done)))))))) | refine WA_seq (WA_region ?_) | refine WA_region ?_ | refine WA_exit ?_); try simp (maxSteps := 1000000) (disch := first | omega | rfl | decide | (simp only [List.length_cons, List.length_nil, List.length_append, Bs_length, Is_length, Vs_length, Bl_length, Il_length] <;> omega)) only [go_sem, Nat.reduceAdd, Int.reduceAdd, Int.reduceSub, Int.reduceMul, Bool.not_true, Bool.not_false, Bool.not_true]) | refine WA_seq ?_ | refine WA_block ?_ | (refine WA_skip ?_; try simp only [go_sem]) | (refine WA_ret ?_; try simp only [go_sem]) | refine WA_ct rfl ?_ | refine WA_cf rfl ?_))
        (refine Drop_slots (by first | exact Nat.le_refl _ | simp) ?_; focus ((try simp only [JL_same, JL_J, JL_nil, Int.reduceAdd, Nat.sub_sub, Int.natCast_add, Int.natCast_one, Int.natCast_zero, Int.cast_ofNat_Int, Nat.add_zero, Bool.false_eq_true, if_false, if_true]); (try exact JL_refl _)))
      · have hk2 := inS_ac (v q) 0 4294967295
        rw [show inR (v q) 0 4294967295 = false from hz] at hk2
        (repeat (first | ((first | (refine And.intro ?_ ?_; focus (first | exact plain_agg (by simp only [go_sem]) | exact plain_two (by first | exact plain_agg (by simp only [go_sem]) | rfl) rfl | rfl)) | ((first | with_reducible apply callB_i | with_reducible apply callK_intro | with_reducible apply callQ_i); (focus (first | assumption | (with_reducible apply hk2 <;> (first | assumption | rfl | (simp (disch := omega) only [go_sem]; first | done | rfl) | omega | decide | (simp; done))))); (try (focus (refine WP.mk ?_ ?_; (focus ((repeat (first | exact trivial | (refine And.intro ?_ ?_; (focus first | exact plainV_wf rfl | (refine plainV_wf (plain_agg ?_); simp only [go_sem]; done) | (simp only [wfV, wf1, wfC, List.length_append, List.length_cons, List.length_nil]; omega))))))); (focus (first | rfl | (refine plain_agg ?_; simp only [go_sem]; done) | (refine plain_two ?_ ?_ <;> first | rfl | (refine plain_agg ?_; simp only [go_sem]; done)))))))) | refine WA_seq (WA_region ?_) | refine WA_region ?_ | refine WA_exit ?_); try simp (maxSteps := 1000000) (disch := first | omega | rfl | decide | (simp only [List.length_cons, List.length_nil, List.length_append, Bs_length, Is_length, Vs_length, Bl_length, Il_length] <;> omega)) only [go_sem, Nat.reduceAdd, Int.reduceAdd, Int.reduceSub, Int.reduceMul, Bool.not_true, Bool.not_false, Bool.not_false]) | refine WA_seq ?_ | refine WA_block ?_ | (refine WA_skip ?_; try simp only [go_sem]) | (refine WA_ret ?_; try simp only [go_sem]) | refine WA_ct rfl ?_ | refine WA_cf rfl ?_))
        ((first | refine ret_none (by first | exact .inr rfl | exact .inl rfl) ?_ | refine ret_same (by first | exact .inr rfl | exact .inl rfl) ?_ (by first | rfl | exact plain_agg (by simp only [go_sem]) | exact plain_two (by first | exact plain_agg (by simp only [go_sem]) | rfl) (by first | exact plain_agg (by simp only [go_sem]) | rfl)) | refine ret_full (by first | exact .inr rfl | exact .inl rfl) (by simp) ?_); simp (maxSteps := 1000000) (disch := first | omega | rfl | decide | (simp only [List.length_cons, List.length_nil, List.length_append, Bs_length, Is_length, Vs_length, Bl_length, Il_length] <;> omega)) only [go_sem, Nat.reduceAdd, Int.reduceAdd, Int.reduceSub, Int.reduceMul, Bool.not_true, Bool.not_false]; try rfl)
  · have hd : decide (200 < n) = true := decide_eq_true (by omega)
    (refine AC_begin (fun _ _ => Try.call90 _ _) Try.func90 rfl Try.ntmps90 Try.results90 (fun hwf => ?_); simp only [List.length_cons, List.length_nil, Nat.reduceAdd, Nat.reduceSub, List.replicate, List.cons_append, List.nil_append])
    (repeat (first | ((first | (refine And.intro ?_ ?_; focus (first | exact plain_agg (by simp only [go_sem]) | exact plain_two (by first | exact plain_agg (by simp only [go_sem]) | rfl) rfl | rfl)) | refine WA_seq (WA_region ?_) | refine WA_region ?_ | refine WA_exit ?_); try simp (maxSteps := 1000000) (disch := first | omega | rfl | decide | (simp only [List.length_cons, List.length_nil, List.length_append, Bs_length, Is_length, Vs_length, Bl_length, Il_length] <;> omega)) only [go_sem, Nat.reduceAdd, Int.reduceAdd, Int.reduceSub, Int.reduceMul, Bool.not_true, Bool.not_false, hd]) | refine WA_seq ?_ | refine WA_block ?_ | (refine WA_skip ?_; try simp only [go_sem]) | (refine WA_ret ?_; try simp only [go_sem]) | refine WA_ct rfl ?_ | refine WA_cf rfl ?_))
    ((first | refine ret_none (by first | exact .inr rfl | exact .inl rfl) ?_ | refine ret_same (by first | exact .inr rfl | exact .inl rfl) ?_ (by first | rfl | exact plain_agg (by simp only [go_sem]) | exact plain_two (by first | exact plain_agg (by simp only [go_sem]) | rfl) (by first | exact plain_agg (by simp only [go_sem]) | rfl)) | refine ret_full (by first | exact .inr rfl | exact .inl rfl) (by simp) ?_); simp (maxSteps := 1000000) (disch := first | omega | rfl | decide | (simp only [List.length_cons, List.length_nil, List.length_append, Bs_length, Is_length, Vs_length, Bl_length, Il_length] <;> omega)) only [go_sem, Nat.reduceAdd, Int.reduceAdd, Int.reduceSub, Int.reduceMul, Bool.not_true, Bool.not_false, rkV, rkC, show decide (n ≤ 200) = false from decide_eq_false h200, Bool.false_and, cond_false]; try rfl)

end Go.Proofs.Ytkgiocoiojdgfaa
/- Draws of blocks, places and matrices. -/
namespace Go.Proofs.Ytkgiocoiojdgfaa
set_option linter.unusedSimpArgs false
set_option linter.unusedVariables false
set_option maxRecDepth 20000
set_option maxHeartbeats 1000000
open Go.Abs

theorem Cd.lt {h : List Blk} {b n : Nat} {cv : Value} {f : Nat → UInt8} (c : Cd h b cv n f) : ∀ bc n', cv = Go.Abs.sl bc 0 n' 1 → bc < h.length := by
  intro bc n' e
  cases c with
  | nil => cases e
  | sl _ hb hne => cases e; exact blt hb
theorem Cd.set2 {h h0 : List Blk} {b n n0 : Nat} {cv : Value} {f f0 : Nat → UInt8} (c : Cd h b cv n f) (c0 : Cd h0 b cv n0 f0) {i : Nat} (hi : h0.length ≤ i) (x : Blk) : Cd (h.set i x) b cv n f := by
  cases c with
  | nil => exact .nil f
  | sl _ hb hne =>
    have := c0.lt _ _ rfl
    exact .sl _ (set_at hb (by omega)) hne
theorem Aft.set {h h' : List Blk} {b : Nat} {cv : Value} (a : Aft h h' b cv) (s : SrcAt h b cv) {i : Nat} (hi : h.length ≤ i) (x : Blk) : Aft h (h'.set i x) b cv := by
  have hl := s.lt
  obtain ⟨k0, _, _, _, _, _, _, _, _, c0⟩ := s
  refine ⟨?_, fun j y hj hy => ?_, fun h0 hb e => ?_, by simpa using a.len⟩
  · obtain ⟨k, hb, aa, hs, n, f, e, l1, l2, c⟩ := a.src
    exact ⟨k, set_at hb (by omega), aa, hs, n, f, e, l1, l2, c.set2 c0 hi x⟩
  · have := blt hy
    exact set_at (a.keep j y hj hy) (by omega)
  · obtain ⟨L, e2⟩ := a.app h0 hb e
    obtain ⟨A, eA⟩ := e
    have hlen : h0.length ≤ i := by have := congrArg List.length eA; rw [List.length_append] at this; omega
    rw [e2]
    exact app_set' hlen x
theorem seq_ex {S : Type} {I : Nat → S → Prop} {R : Nat → S → S → Prop} {n : Nat} (s0 : S) (h0 : I 0 s0) (hs : ∀ k, k < n → ∀ s, I k s → ∃ t, I (k + 1) t ∧ R k s t) :
    ∃ f : Nat → S, f 0 = s0 ∧ (∀ k, k ≤ n → I k (f k)) ∧ ∀ k, k < n → R k (f k) (f (k + 1)) := by
  have h : ∀ p : Nat × S, ∃ t, p.1 < n → I p.1 p.2 → I (p.1 + 1) t ∧ R p.1 p.2 t := fun p => by
    by_cases hp : p.1 < n ∧ I p.1 p.2
    · obtain ⟨t, ht⟩ := hs p.1 hp.1 p.2 hp.2
      exact ⟨t, fun _ _ => ht⟩
    · exact ⟨p.2, fun a b => absurd ⟨a, b⟩ hp⟩
  obtain ⟨g, hg⟩ := Classical.axiomOfChoice h
  let f : Nat → S := fun k => Nat.rec s0 (fun k s => g (k, s)) k
  have hI : ∀ k, k ≤ n → I k (f k) := fun k => by
    induction k with
    | zero => exact fun _ => h0
    | succ k ih => exact fun hk => (hg (k, f k) (by show k < n; omega) (ih (by omega))).1
  exact ⟨f, rfl, hI, fun k hk => (hg (k, f k) hk (hI k (by omega))).2⟩
end Go.Proofs.Ytkgiocoiojdgfaa
/- Draws of matrices. -/
namespace Go.Proofs.Ytkgiocoiojdgfaa
set_option linter.unusedSimpArgs false
set_option linter.unusedVariables false
set_option maxRecDepth 20000
set_option maxHeartbeats 1000000
open Go.Abs

def circF (f : Nat → UInt8) : Nat → UInt8 := fun q => f ((q % 4 + 4 - q / 4) % 4)
theorem circ_at {i j : Nat} {f : Nat → UInt8} (hj : j < 4) : f ((j + 4 - i) % 4) = circF f (i * 4 + j) := by
  unfold circF; rw [show (i * 4 + j) / 4 = i by omega, show (i * 4 + j) % 4 = j by omega]
def four (a b c d : UInt8) : Nat → UInt8 := fun i => if i = 0 then a else if i = 1 then b else if i = 2 then c else d
theorem Bs_four (a b c d : UInt8) : [B a, B b, B c, B d] = Bs 4 (four a b c d) := rfl
theorem circS_ac {h : List Blk} {b : Nat} {f : Nat → UInt8} {r : Bool} (hb : h[b]? = some ⟨Bs 4 f, r⟩) : AC Try.prog 212 [sl b 0 4 1] h (.agg (Bs 16 (circF f)).toArray) h := by
  have hbl := blt hb
  (refine AC_begin (fun _ _ => Try.call212 _ _) Try.func212 rfl Try.ntmps212 Try.results212 (fun hwf => ?_); simp only [List.length_cons, List.length_nil, Nat.reduceAdd, Nat.reduceSub, List.replicate, List.cons_append, List.nil_append])
  (repeat (first | ((first | (refine And.intro ?_ ?_; focus (first | exact plain_agg (by simp only [go_sem]) | exact plain_two (by first | exact plain_agg (by simp only [go_sem]) | rfl) rfl | rfl)) | refine WA_seq (WA_region ?_) | refine WA_region ?_ | refine WA_exit ?_); try simp (maxSteps := 1000000) (disch := first | omega | rfl | decide | (simp only [List.length_cons, List.length_nil, List.length_append, Bs_length, Is_length, Vs_length, Bl_length, Il_length] <;> omega)) only [go_sem, Nat.reduceAdd, Int.reduceAdd, Int.reduceSub, Int.reduceMul, Bool.not_true, Bool.not_false]) | refine WA_seq ?_ | refine WA_block ?_ | (refine WA_skip ?_; try simp only [go_sem]) | (refine WA_ret ?_; try simp only [go_sem]) | refine WA_ct rfl ?_ | refine WA_cf rfl ?_))
  refine WA_forP (fun k => [(4, .int .i64 k), (5, J), (7, J), (8, J), (9, J), (10, J), (11, J), (12, J), (13, J), (14, J), (15, J), (16, J), (17, J), (18, J), (19, J), (20, J), (21, J), (22, J), (23, J), (24, J), (25, J), (26, J)]) (fun k => [(1, ⟨Bs 16 (pre (k * 4) (circF f) fun _ => 0), true⟩)]) (4) ?_ ?_ ?_ <;> (try simp only [patT_cons, patT_nil, patL_cons, patL_nil, list_set_zero, list_set_succ, blk_set_zero, blk_set_succ])
  · rw [Nat.zero_mul, pre_zero]
    (refine Drop_slots (by first | exact Nat.le_refl _ | simp) ?_; focus ((try simp only [JL_same, JL_J, JL_nil, Int.reduceAdd, Nat.sub_sub, Int.natCast_add, Int.natCast_one, Int.natCast_zero, Int.cast_ofNat_Int, Nat.add_zero, Bool.false_eq_true, if_false, if_true]); (try exact JL_refl _)))
  · intro i hi
    (repeat (first | ((first | (refine And.intro ?_ ?_; focus (first | exact plain_agg (by simp only [go_sem]) | exact plain_two (by first | exact plain_agg (by simp only [go_sem]) | rfl) rfl | rfl)) | refine WA_seq (WA_region ?_) | refine WA_region ?_ | refine WA_exit ?_); try simp (maxSteps := 1000000) (disch := first | omega | rfl | decide | (simp only [List.length_cons, List.length_nil, List.length_append, Bs_length, Is_length, Vs_length, Bl_length, Il_length] <;> omega)) only [go_sem, Nat.reduceAdd, Int.reduceAdd, Int.reduceSub, Int.reduceMul, Bool.not_true, Bool.not_false]) | refine WA_seq ?_ | refine WA_block ?_ | (refine WA_skip ?_; try simp only [go_sem]) | (refine WA_ret ?_; try simp only [go_sem]) | refine WA_ct rfl ?_ | refine WA_cf rfl ?_))
    refine WA_forP (fun k => [(5, .int .i64 k), (11, J), (12, J), (13, J), (14, J), (15, J), (16, J), (17, J), (18, J), (19, J), (20, J), (21, J), (22, J), (23, J), (24, J), (25, J), (26, J)]) (fun k => [(1, ⟨Bs 16 (pre (i * 4 + k) (circF f) fun _ => 0), true⟩)]) (4) ?_ ?_ ?_ <;> (try simp only [patT_cons, patT_nil, patL_cons, patL_nil, list_set_zero, list_set_succ, blk_set_zero, blk_set_succ])
    · (refine Drop_slots (by first | exact Nat.le_refl _ | simp) ?_; focus ((try simp only [JL_same, JL_J, JL_nil, Int.reduceAdd, Nat.sub_sub, Int.natCast_add, Int.natCast_one, Int.natCast_zero, Int.cast_ofNat_Int, Nat.add_zero, Bool.false_eq_true, if_false, if_true]); (try exact JL_refl _)))
    · intro j hj
      (repeat (first | ((first | (refine And.intro ?_ ?_; focus (first | exact plain_agg (by simp only [go_sem]) | exact plain_two (by first | exact plain_agg (by simp only [go_sem]) | rfl) rfl | rfl)) | refine WA_seq (WA_region ?_) | refine WA_region ?_ | refine WA_exit ?_); try simp (maxSteps := 1000000) (disch := first | omega | rfl | decide | (simp only [List.length_cons, List.length_nil, List.length_append, Bs_length, Is_length, Vs_length, Bl_length, Il_length] <;> omega)) only [go_sem, Nat.reduceAdd, Int.reduceAdd, Int.reduceSub, Int.reduceMul, Bool.not_true, Bool.not_false, look_old hb, circ_at hj, upd_pre]) | (refine (WA_rb (id := 8) [12] (SubM.refl _) mixedOk ?_); simp only [List.size_toArray, List.length_cons, List.length_nil]; (repeat (first | ((first | (refine And.intro ?_ ?_; focus (first | exact plain_agg (by simp only [go_sem]) | exact plain_two (by first | exact plain_agg (by simp only [go_sem]) | rfl) rfl | rfl)) | refine RB_take false [0, 1, 2, 3, 4, 5, 6, 7, 8, 10] 3 (by rfl) (by kernel_rfl) (by decide) (by decide +kernel) ?_ | refine RB_take true [9] 2 (by rfl) (by kernel_rfl) (by decide) (by decide +kernel) ?_ | refine RB_take false [11] 1 (by rfl) (by kernel_rfl) (by decide) (by decide +kernel) ?_ | refine RB_exec 12 _ (by rfl) (by decide +kernel) (by decide +kernel) ?_ | refine RB_done (by decide +kernel) ?_); try simp (maxSteps := 1000000) (disch := first | omega | rfl | decide | (simp only [List.length_cons, List.length_nil, List.length_append, Bs_length, Is_length, Vs_length, Bl_length, Il_length] <;> omega)) only [go_sem, Nat.reduceAdd, Int.reduceAdd, Int.reduceSub, Int.reduceMul, Bool.not_true, Bool.not_false, look_old hb, circ_at hj, upd_pre])))) | refine WA_seq ?_ | refine WA_block ?_ | (refine WA_skip ?_; try simp only [go_sem]) | (refine WA_ret ?_; try simp only [go_sem]) | refine WA_ct rfl ?_ | refine WA_cf rfl ?_))
      (refine Drop_slots (by first | exact Nat.le_refl _ | simp) ?_; focus ((try simp only [JL_same, JL_J, JL_nil, Int.reduceAdd, Nat.sub_sub, Int.natCast_add, Int.natCast_one, Int.natCast_zero, Int.cast_ofNat_Int, Nat.add_zero, Bool.false_eq_true, if_false, if_true]); (try exact JL_refl _)))
    · (repeat (first | ((first | (refine And.intro ?_ ?_; focus (first | exact plain_agg (by simp only [go_sem]) | exact plain_two (by first | exact plain_agg (by simp only [go_sem]) | rfl) rfl | rfl)) | refine WA_seq (WA_region ?_) | refine WA_region ?_ | refine WA_exit ?_); try simp (maxSteps := 1000000) (disch := first | omega | rfl | decide | (simp only [List.length_cons, List.length_nil, List.length_append, Bs_length, Is_length, Vs_length, Bl_length, Il_length] <;> omega)) only [go_sem, Nat.reduceAdd, Int.reduceAdd, Int.reduceSub, Int.reduceMul, Bool.not_true, Bool.not_false]) | refine WA_seq ?_ | refine WA_block ?_ | (refine WA_skip ?_; try simp only [go_sem]) | (refine WA_ret ?_; try simp only [go_sem]) | refine WA_ct rfl ?_ | refine WA_cf rfl ?_))
      rw [show (i + 1) * 4 = i * 4 + 4 by omega]
      (refine Drop_slots (by first | exact Nat.le_refl _ | simp) ?_; focus ((try simp only [JL_same, JL_J, JL_nil, Int.reduceAdd, Nat.sub_sub, Int.natCast_add, Int.natCast_one, Int.natCast_zero, Int.cast_ofNat_Int, Nat.add_zero, Bool.false_eq_true, if_false, if_true]); (try exact JL_refl _)))
  · (repeat (first | ((first | (refine And.intro ?_ ?_; focus (first | exact plain_agg (by simp only [go_sem]) | exact plain_two (by first | exact plain_agg (by simp only [go_sem]) | rfl) rfl | rfl)) | refine WA_seq (WA_region ?_) | refine WA_region ?_ | refine WA_exit ?_); try simp (maxSteps := 1000000) (disch := first | omega | rfl | decide | (simp only [List.length_cons, List.length_nil, List.length_append, Bs_length, Is_length, Vs_length, Bl_length, Il_length] <;> omega)) only [go_sem, Nat.reduceAdd, Int.reduceAdd, Int.reduceSub, Int.reduceMul, Bool.not_true, Bool.not_false]) | refine WA_seq ?_ | refine WA_block ?_ | (refine WA_skip ?_; try simp only [go_sem]) | (refine WA_ret ?_; try simp only [go_sem]) | refine WA_ct rfl ?_ | refine WA_cf rfl ?_))
    ((first | refine ret_none (by first | exact .inr rfl | exact .inl rfl) ?_ | refine ret_same (by first | exact .inr rfl | exact .inl rfl) ?_ (by first | rfl | exact plain_agg (by simp only [go_sem]) | exact plain_two (by first | exact plain_agg (by simp only [go_sem]) | rfl) (by first | exact plain_agg (by simp only [go_sem]) | rfl)) | refine ret_full (by first | exact .inr rfl | exact .inl rfl) (by simp) ?_); simp (maxSteps := 1000000) (disch := first | omega | rfl | decide | (simp only [List.length_cons, List.length_nil, List.length_append, Bs_length, Is_length, Vs_length, Bl_length, Il_length] <;> omega)) only [go_sem, Nat.reduceAdd, Int.reduceAdd, Int.reduceSub, Int.reduceMul, Bool.not_true, Bool.not_false, Bs_pre]; try rfl)

theorem l03Draw_aft {h : List Blk} {b : Nat} {cv : Value} (s : SrcAt h b cv) (m : Int) :
    ∃ (f : Nat → UInt8) (h' : List Blk), Aft h h' b cv ∧ AC Try.prog 173 [pt b 0, .int .i64 m] h (.agg (Bs 16 f).toArray) h' := by
  have hbl := s.lt
  have a0 := s.more [⟨Bs 16 zeroF, true⟩, ⟨Bs 16 unitF, true⟩]
  obtain ⟨x, h1, hx, a1, c1⟩ := next_aft a0.src (N := 6) (by omega) (by omega)
  have hO := a1.keep (h.length + 1) ⟨Bs 16 unitF, true⟩ (by omega) (by simp)
  have hR := a1.keep (h.length) ⟨Bs 16 zeroF, true⟩ (by omega) (by simp)
  have A1 := a0.trans a1
  by_cases h0 : x = 0
  · subst h0
    obtain ⟨v1, h2, a2, c2⟩ := drawByte_aft a1.src
    obtain ⟨v2, h3, a3, c3⟩ := drawByte_aft a2.src
    have a4 := a3.src.more [⟨[B v1, B v2, B 1, B 1], true⟩]
    have A4 := ((A1.trans a2).trans a3).trans a4
    have hR4 := a4.keep _ _ (by omega) (a3.keep _ _ (by omega) (a2.keep _ _ (by omega) hR))
    have hc := circS_ac (h := h3 ++ [⟨[B v1, B v2, B 1, B 1], true⟩]) (b := h3.length) (f := four v1 v2 1 1) (r := true) (by rw [Bs_four]; simp)
    have hlen := A4.len
    refine ⟨circF (four v1 v2 1 1), (h3 ++ [(⟨[B v1, B v2, B 1, B 1], true⟩ : Blk)]).set h.length ⟨Bs 16 (circF (four v1 v2 1 1)), true⟩, A4.set s (Nat.le_refl _) _, ?_⟩
    (refine AC_begin (fun _ _ => Try.call173 _ _) Try.func173 rfl Try.ntmps173 Try.results173 (fun hwf => ?_); simp only [List.length_cons, List.length_nil, Nat.reduceAdd, Nat.reduceSub, List.replicate, List.cons_append, List.nil_append])
    (repeat (first | ((first | (refine And.intro ?_ ?_; focus (first | exact plain_agg (by simp only [go_sem]) | exact plain_two (by first | exact plain_agg (by simp only [go_sem]) | rfl) rfl | rfl)) | ((first | with_reducible apply callB_i | with_reducible apply callK_intro | with_reducible apply callQ_i); (focus (first | assumption | ((first | with_reducible apply unitS_ac | with_reducible apply c1 | with_reducible apply c2 | with_reducible apply c3 | with_reducible apply hc) <;> (first | assumption | rfl | (simp (disch := omega) only [go_sem]; first | done | rfl) | omega | decide | (simp; done))))); (try (focus (refine WP.mk ?_ ?_; (focus ((repeat (first | exact trivial | (refine And.intro ?_ ?_; (focus first | exact plainV_wf rfl | (refine plainV_wf (plain_agg ?_); simp only [go_sem]; done) | (simp only [wfV, wf1, wfC, List.length_append, List.length_cons, List.length_nil]; omega))))))); (focus (first | rfl | (refine plain_agg ?_; simp only [go_sem]; done) | (refine plain_two ?_ ?_ <;> first | rfl | (refine plain_agg ?_; simp only [go_sem]; done)))))))) | refine WA_seq (WA_region ?_) | refine WA_region ?_ | refine WA_exit ?_); try simp (maxSteps := 1000000) (disch := first | omega | rfl | decide | (simp only [List.length_cons, List.length_nil, List.length_append, Bs_length, Is_length, Vs_length, Bl_length, Il_length] <;> omega)) only [go_sem, Nat.reduceAdd, Int.reduceAdd, Int.reduceSub, Int.reduceMul, Bool.not_true, Bool.not_false, beq_self_eq_true, hR4]) | refine WA_seq ?_ | refine WA_block ?_ | (refine WA_skip ?_; try simp only [go_sem]) | (refine WA_ret ?_; try simp only [go_sem]) | refine WA_ct rfl ?_ | refine WA_cf rfl ?_))
    refine ret_full (by first | exact .inr rfl | exact .inl rfl) (by simp only [List.length_set, List.length_append, List.length_cons, List.length_nil] at hlen ⊢; omega) ?_
    simp (maxSteps := 1000000) (disch := first | omega | rfl | decide | (simp only [List.length_cons, List.length_nil, List.length_append, Bs_length, Is_length, Vs_length, Bl_length, Il_length] <;> omega)) only [go_sem, Nat.reduceAdd, Int.reduceAdd, Int.reduceSub, Int.reduceMul, Bool.not_true, Bool.not_false, look_set (blt hR4)]
    try rfl
  · have hx0 : (x == 0) = false := by simpa using h0
    by_cases h1x : x = 1 ∧ fieldB m.toNat = true
    · obtain ⟨rfl, hf⟩ := h1x
      obtain ⟨n, rfl, hn, g0, g1⟩ := fieldB_nat hf
      obtain ⟨y, h2, hy, a2, c2⟩ := next_aft a1.src (N := 30) (by omega) (by omega)
      generalize hu : UInt8.ofNat (y * 8) = u
      have a4 := a2.src.more [⟨[B u, B (u + 1), B (u + 2), B (u + 3)], true⟩, ⟨[B (u + 4), B (u + 5), B (u + 6), B (u + 7)], true⟩]
      have A4 := (A1.trans a2).trans a4
      have hR4 := a4.keep _ _ (by omega) (a2.keep _ _ (by omega) hR)
      have hc := cauchyS_ac g0 g1 (h := h2 ++ [⟨[B u, B (u + 1), B (u + 2), B (u + 3)], true⟩, ⟨[B (u + 4), B (u + 5), B (u + 6), B (u + 7)], true⟩]) (b := h2.length) (b' := h2.length + 1) (f := four u (u + 1) (u + 2) (u + 3)) (g := four (u + 4) (u + 5) (u + 6) (u + 7)) (r := true) (r' := true) (by rw [Bs_four, Bs_four]; simp) (by rw [Bs_four, Bs_four]; simp)
      have hlen := A4.len
      refine ⟨cauF n (four u (u + 1) (u + 2) (u + 3)) (four (u + 4) (u + 5) (u + 6) (u + 7)), _, A4.set s (Nat.le_refl _) ⟨Bs 16 (cauF n (four u (u + 1) (u + 2) (u + 3)) (four (u + 4) (u + 5) (u + 6) (u + 7))), true⟩, ?_⟩
      (refine AC_begin (fun _ _ => Try.call173 _ _) Try.func173 rfl Try.ntmps173 Try.results173 (fun hwf => ?_); simp only [List.length_cons, List.length_nil, Nat.reduceAdd, Nat.reduceSub, List.replicate, List.cons_append, List.nil_append])
      (repeat (first | ((first | (refine And.intro ?_ ?_; focus (first | exact plain_agg (by simp only [go_sem]) | exact plain_two (by first | exact plain_agg (by simp only [go_sem]) | rfl) rfl | rfl)) | ((first | with_reducible apply callB_i | with_reducible apply callK_intro | with_reducible apply callQ_i); (focus (first | assumption | ((first | with_reducible apply unitS_ac | with_reducible apply c1 | with_reducible apply fieldS_ac | with_reducible apply c2 | with_reducible apply hc) <;> (first | assumption | rfl | (simp (disch := omega) only [go_sem]; first | done | rfl) | omega | decide | (simp; done))))); (try (focus (refine WP.mk ?_ ?_; (focus ((repeat (first | exact trivial | (refine And.intro ?_ ?_; (focus first | exact plainV_wf rfl | (refine plainV_wf (plain_agg ?_); simp only [go_sem]; done) | (simp only [wfV, wf1, wfC, List.length_append, List.length_cons, List.length_nil]; omega))))))); (focus (first | rfl | (refine plain_agg ?_; simp only [go_sem]; done) | (refine plain_two ?_ ?_ <;> first | rfl | (refine plain_agg ?_; simp only [go_sem]; done)))))))) | refine WA_seq (WA_region ?_) | refine WA_region ?_ | refine WA_exit ?_); try simp (maxSteps := 1000000) (disch := first | omega | rfl | decide | (simp only [List.length_cons, List.length_nil, List.length_append, Bs_length, Is_length, Vs_length, Bl_length, Il_length] <;> omega)) only [go_sem, Nat.reduceAdd, Int.reduceAdd, Int.reduceSub, Int.reduceMul, Bool.not_true, Bool.not_false, beq_self_eq_true, hx0, hn, hu, Int.toNat_natCast, hR4]) | refine WA_seq ?_ | refine WA_block ?_ | (refine WA_skip ?_; try simp only [go_sem]) | (refine WA_ret ?_; try simp only [go_sem]) | refine WA_ct rfl ?_ | refine WA_cf rfl ?_))
      refine ret_full (by first | exact .inr rfl | exact .inl rfl) (by simp only [List.length_set, List.length_append, List.length_cons, List.length_nil] at hlen ⊢; omega) ?_
      simp (maxSteps := 1000000) (disch := first | omega | rfl | decide | (simp only [List.length_cons, List.length_nil, List.length_append, Bs_length, Is_length, Vs_length, Bl_length, Il_length] <;> omega)) only [go_sem, Nat.reduceAdd, Int.reduceAdd, Int.reduceSub, Int.reduceMul, Bool.not_true, Bool.not_false, look_set (blt hR4)]
      try rfl
    · by_cases h2x : x = 2
      · subst h2x
        obtain ⟨q, h2, hq, a2, c2⟩ := next_aft a1.src (N := 5) (by omega) (by omega)
        have A2 := A1.trans a2
        obtain ⟨st, e0, hI, hRt⟩ := seq_ex (S := List Blk × (Nat → UInt8)) (n := q)
          (I := fun _ s => s.1[h.length + 1]? = some ⟨Bs 16 s.2, true⟩ ∧ s.1[h.length]? = some ⟨Bs 16 zeroF, true⟩ ∧ Aft h s.1 b cv)
          (R := fun _ s t => ∃ (i j : Nat) (v : UInt8) (M1 M2 M3 : List Blk), i < 4 ∧ j < 4 ∧ AC Try.prog 143 [pt b 0, .int .i64 ((4 : Nat) : Int)] s.1 (.int .i64 i) M1 ∧ AC Try.prog 143 [pt b 0, .int .i64 ((4 : Nat) : Int)] M1 (.int .i64 j) M2 ∧ AC Try.prog 164 [pt b 0] M2 (B v) M3 ∧ M3[h.length + 1]? = some ⟨Bs 16 s.2, true⟩ ∧ t = (M3.set (h.length + 1) ⟨Bs 16 (upd s.2 (i * 4 + j) v), true⟩, upd s.2 (i * 4 + j) v))
          (h2, unitF) ⟨a2.keep _ _ (by omega) hO, a2.keep _ _ (by omega) hR, A2⟩ (fun k hk s0 ⟨i1, i2, i3⟩ => by
            obtain ⟨i, M1, hi, r1, d1⟩ := next_aft i3.src (N := 4) (by omega) (by omega)
            obtain ⟨j, M2, hj, r2, d2⟩ := next_aft r1.src (N := 4) (by omega) (by omega)
            obtain ⟨v, M3, r3, d3⟩ := drawByte_aft r2.src
            have a := (r1.trans r2).trans r3
            have j1 := a.keep _ _ (by omega) i1
            have j2 := a.keep _ _ (by omega) i2
            exact ⟨_, ⟨look_set (blt j1), set_at j2 (by omega), (i3.trans a).set s (by omega) _⟩, i, j, v, M1, M2, M3, hi, hj, d1, d2, d3, j1, rfl⟩)
        obtain ⟨f1, f2, f3⟩ := hI q (Nat.le_refl _)
        have hlen := f3.len
        refine ⟨(st q).2, (st q).1.set h.length ⟨Bs 16 (st q).2, true⟩, f3.set s (Nat.le_refl _) _, ?_⟩
        (refine AC_begin (fun _ _ => Try.call173 _ _) Try.func173 rfl Try.ntmps173 Try.results173 (fun hwf => ?_); simp only [List.length_cons, List.length_nil, Nat.reduceAdd, Nat.reduceSub, List.replicate, List.cons_append, List.nil_append])
        (repeat (first | ((first | (refine And.intro ?_ ?_; focus (first | exact plain_agg (by simp only [go_sem]) | exact plain_two (by first | exact plain_agg (by simp only [go_sem]) | rfl) rfl | rfl)) | ((first | with_reducible apply callB_i | with_reducible apply callK_intro | with_reducible apply callQ_i); (focus (first | assumption | ((first | with_reducible apply unitS_ac | with_reducible apply c1 | with_reducible apply c2) <;> (first | assumption | rfl | (simp (disch := omega) only [go_sem]; first | done | rfl) | omega | decide | (simp; done))))); (try (focus (refine WP.mk ?_ ?_; (focus ((repeat (first | exact trivial | (refine And.intro ?_ ?_; (focus first | exact plainV_wf rfl | (refine plainV_wf (plain_agg ?_); simp only [go_sem]; done) | (simp only [wfV, wf1, wfC, List.length_append, List.length_cons, List.length_nil]; omega))))))); (focus (first | rfl | (refine plain_agg ?_; simp only [go_sem]; done) | (refine plain_two ?_ ?_ <;> first | rfl | (refine plain_agg ?_; simp only [go_sem]; done)))))))) | refine WA_seq (WA_region ?_) | refine WA_region ?_ | refine WA_exit ?_); try simp (maxSteps := 1000000) (disch := first | omega | rfl | decide | (simp only [List.length_cons, List.length_nil, List.length_append, Bs_length, Is_length, Vs_length, Bl_length, Il_length] <;> omega)) only [go_sem, Nat.reduceAdd, Int.reduceAdd, Int.reduceSub, Int.reduceMul, Bool.not_true, Bool.not_false, beq_self_eq_true, hx0]) | refine WA_seq ?_ | refine WA_block ?_ | (refine WA_skip ?_; try simp only [go_sem]) | (refine WA_ret ?_; try simp only [go_sem]) | refine WA_ct rfl ?_ | refine WA_cf rfl ?_))
        refine WA_forH (fun k => [(7, .int .i64 ((q - k : Nat))), (54, J), (55, J), (56, J), (57, J), (58, J), (59, J), (60, J), (61, J), (62, J), (63, J), (64, J), (65, J)]) (fun k => (st k).1) (q) ?_ ?_ ?_ <;> (try simp only [patT_cons, patT_nil, patL_cons, patL_nil, list_set_zero, list_set_succ, blk_set_zero, blk_set_succ])
        · have e1 : (st 0).1 = h2 := by rw [e0]
          have l1 := A2.len
          rw [e1]
          (refine Drop_slots (by first | assumption | exact Nat.le_refl _) ?_; focus ((try simp only [JL_same, JL_J, JL_nil, Int.reduceAdd, Nat.sub_sub, Int.natCast_add, Int.natCast_one, Int.natCast_zero, Int.cast_ofNat_Int, Nat.add_zero, Bool.false_eq_true, if_false, if_true]); (try exact JL_refl _)))
        · intro k hk
          obtain ⟨i, j, v, M1, M2, M3, hi, hj, d1, d2, d3, j1, e⟩ := hRt k hk
          have l1 := (hI (k + 1) hk).2.2.len
          rw [e] at l1 ⊢
          (repeat (first | ((first | (refine And.intro ?_ ?_; focus (first | exact plain_agg (by simp only [go_sem]) | exact plain_two (by first | exact plain_agg (by simp only [go_sem]) | rfl) rfl | rfl)) | ((first | with_reducible apply callB_i | with_reducible apply callK_intro | with_reducible apply callQ_i); (focus (first | assumption | ((first | with_reducible apply d1 | with_reducible apply d2 | with_reducible apply d3) <;> (first | assumption | rfl | (simp (disch := omega) only [go_sem]; first | done | rfl) | omega | decide | (simp; done))))); (try (focus (refine WP.mk ?_ ?_; (focus ((repeat (first | exact trivial | (refine And.intro ?_ ?_; (focus first | exact plainV_wf rfl | (refine plainV_wf (plain_agg ?_); simp only [go_sem]; done) | (simp only [wfV, wf1, wfC, List.length_append, List.length_cons, List.length_nil]; omega))))))); (focus (first | rfl | (refine plain_agg ?_; simp only [go_sem]; done) | (refine plain_two ?_ ?_ <;> first | rfl | (refine plain_agg ?_; simp only [go_sem]; done)))))))) | refine WA_seq (WA_region ?_) | refine WA_region ?_ | refine WA_exit ?_); try simp (maxSteps := 1000000) (disch := first | omega | rfl | decide | (simp only [List.length_cons, List.length_nil, List.length_append, Bs_length, Is_length, Vs_length, Bl_length, Il_length] <;> omega)) only [go_sem, Nat.reduceAdd, Int.reduceAdd, Int.reduceSub, Int.reduceMul, Bool.not_true, Bool.not_false, j1, decide_eq_true (show 0 < q - k by omega)]) | (refine (WA_rb (id := 13) [1, 3, 5, 8] (SubM.refl _) mixedOk ?_); simp only [List.size_toArray, List.length_cons, List.length_nil]; (repeat (first | ((first | (refine And.intro ?_ ?_; focus (first | exact plain_agg (by simp only [go_sem]) | exact plain_two (by first | exact plain_agg (by simp only [go_sem]) | rfl) rfl | rfl)) | ((first | with_reducible apply callB_i | with_reducible apply callK_intro | with_reducible apply callQ_i); (focus (first | assumption | ((first | with_reducible apply d1 | with_reducible apply d2 | with_reducible apply d3) <;> (first | assumption | rfl | (simp (disch := omega) only [go_sem]; first | done | rfl) | omega | decide | (simp; done))))); (try (focus (refine WP.mk ?_ ?_; (focus ((repeat (first | exact trivial | (refine And.intro ?_ ?_; (focus first | exact plainV_wf rfl | (refine plainV_wf (plain_agg ?_); simp only [go_sem]; done) | (simp only [wfV, wf1, wfC, List.length_append, List.length_cons, List.length_nil]; omega))))))); (focus (first | rfl | (refine plain_agg ?_; simp only [go_sem]; done) | (refine plain_two ?_ ?_ <;> first | rfl | (refine plain_agg ?_; simp only [go_sem]; done)))))))) | refine RB_take false [0, 2, 4] 6 (by rfl) (by kernel_rfl) (by decide) (by decide +kernel) ?_ | refine RB_exec 1 _ (by rfl) (by decide +kernel) (by decide +kernel) ?_ | refine RB_take false [6] 4 (by rfl) (by kernel_rfl) (by decide) (by decide +kernel) ?_ | refine RB_exec 3 _ (by rfl) (by decide +kernel) (by decide +kernel) ?_ | refine RB_exec 5 _ (by rfl) (by decide +kernel) (by decide +kernel) ?_ | refine RB_take false [7] 1 (by rfl) (by kernel_rfl) (by decide) (by decide +kernel) ?_ | refine RB_exec 8 _ (by rfl) (by decide +kernel) (by decide +kernel) ?_ | refine RB_done (by decide +kernel) ?_); try simp (maxSteps := 1000000) (disch := first | omega | rfl | decide | (simp only [List.length_cons, List.length_nil, List.length_append, Bs_length, Is_length, Vs_length, Bl_length, Il_length] <;> omega)) only [go_sem, Nat.reduceAdd, Int.reduceAdd, Int.reduceSub, Int.reduceMul, Bool.not_true, Bool.not_false, j1, decide_eq_true (show 0 < q - k by omega)])))) | refine WA_seq ?_ | refine WA_block ?_ | (refine WA_skip ?_; try simp only [go_sem]) | (refine WA_ret ?_; try simp only [go_sem]) | refine WA_ct rfl ?_ | refine WA_cf rfl ?_))
          all_goals (refine Drop_slots (by first | assumption | exact Nat.le_refl _) ?_; focus ((try simp only [JL_same, JL_J, JL_nil, Int.reduceAdd, Nat.sub_sub, Int.natCast_add, Int.natCast_one, Int.natCast_zero, Int.cast_ofNat_Int, Nat.add_zero, Bool.false_eq_true, if_false, if_true]); (try exact JL_refl _)))
        · (repeat (first | ((first | (refine And.intro ?_ ?_; focus (first | exact plain_agg (by simp only [go_sem]) | exact plain_two (by first | exact plain_agg (by simp only [go_sem]) | rfl) rfl | rfl)) | refine WA_seq (WA_region ?_) | refine WA_region ?_ | refine WA_exit ?_); try simp (maxSteps := 1000000) (disch := first | omega | rfl | decide | (simp only [List.length_cons, List.length_nil, List.length_append, Bs_length, Is_length, Vs_length, Bl_length, Il_length] <;> omega)) only [go_sem, Nat.reduceAdd, Int.reduceAdd, Int.reduceSub, Int.reduceMul, Bool.not_true, Bool.not_false, f1, f2, Nat.sub_self]) | refine WA_seq ?_ | refine WA_block ?_ | (refine WA_skip ?_; try simp only [go_sem]) | (refine WA_ret ?_; try simp only [go_sem]) | refine WA_ct rfl ?_ | refine WA_cf rfl ?_))
          refine ret_full (by first | exact .inr rfl | exact .inl rfl) (by simpa using hlen) ?_
          simp (maxSteps := 1000000) (disch := first | omega | rfl | decide | (simp only [List.length_cons, List.length_nil, List.length_append, Bs_length, Is_length, Vs_length, Bl_length, Il_length] <;> omega)) only [go_sem, Nat.reduceAdd, Int.reduceAdd, Int.reduceSub, Int.reduceMul, Bool.not_true, Bool.not_false, look_set (blt f2)]
          try rfl
      · by_cases h3x : x = 3
        · subst h3x
          obtain ⟨y, h2, hy, a2, c2⟩ := next_aft a1.src (N := 4) (by omega) (by omega)
          have A2 := A1.trans a2
          have hO2 := a2.keep _ _ (by omega) hO
          have hR2 := a2.keep _ _ (by omega) hR
          have a3 := a2.src.more [⟨Bs 4 fun i => unitF (0 * 4 + i), true⟩]
          have A3 := A2.trans a3
          have hlen := A3.len
          have hO3 := a3.keep _ _ (by omega) hO2
          have hR3 := a3.keep _ _ (by omega) hR2
          have l2 := blt hO2
          have hX : (h2 ++ [(⟨Bs 4 fun i => unitF (0 * 4 + i), true⟩ : Blk)])[h2.length]? = some ⟨Bs 4 fun i => unitF (0 * 4 + i), true⟩ := by simp
          have hX2 := set_at (x := ⟨Bs 16 (over unitF (0 * 4) 4 fun i => unitF (y * 4 + i)), true⟩) hX (show h.length + 1 ≠ h2.length by omega)
          generalize hg : over (over unitF (0 * 4) 4 fun i => unitF (y * 4 + i)) (y * 4) 4 (fun i => unitF (0 * 4 + i)) = g
          have hR4 := set_at (x := ⟨Bs 16 g, true⟩) hR3 (show h.length + 1 ≠ h.length by omega)
          refine ⟨g, _, (A3.set s (Nat.le_succ _) ⟨Bs 16 g, true⟩).set s (Nat.le_refl _) ⟨Bs 16 g, true⟩, ?_⟩
          (refine AC_begin (fun _ _ => Try.call173 _ _) Try.func173 rfl Try.ntmps173 Try.results173 (fun hwf => ?_); simp only [List.length_cons, List.length_nil, Nat.reduceAdd, Nat.reduceSub, List.replicate, List.cons_append, List.nil_append])
          (repeat (first | ((first | (refine And.intro ?_ ?_; focus (first | exact plain_agg (by simp only [go_sem]) | exact plain_two (by first | exact plain_agg (by simp only [go_sem]) | rfl) rfl | rfl)) | ((first | with_reducible apply callB_i | with_reducible apply callK_intro | with_reducible apply callQ_i); (focus (first | assumption | ((first | with_reducible apply unitS_ac | with_reducible apply c1 | with_reducible apply c2) <;> (first | assumption | rfl | (simp (disch := omega) only [go_sem]; first | done | rfl) | omega | decide | (simp; done))))); (try (focus (refine WP.mk ?_ ?_; (focus ((repeat (first | exact trivial | (refine And.intro ?_ ?_; (focus first | exact plainV_wf rfl | (refine plainV_wf (plain_agg ?_); simp only [go_sem]; done) | (simp only [wfV, wf1, wfC, List.length_append, List.length_cons, List.length_nil]; omega))))))); (focus (first | rfl | (refine plain_agg ?_; simp only [go_sem]; done) | (refine plain_two ?_ ?_ <;> first | rfl | (refine plain_agg ?_; simp only [go_sem]; done)))))))) | refine WA_seq (WA_region ?_) | refine WA_region ?_ | refine WA_exit ?_); try simp (maxSteps := 1000000) (disch := first | omega | rfl | decide | (simp only [List.length_cons, List.length_nil, List.length_append, Bs_length, Is_length, Vs_length, Bl_length, Il_length] <;> omega)) only [go_sem, Nat.reduceAdd, Int.reduceAdd, Int.reduceSub, Int.reduceMul, Bool.not_true, Bool.not_false, beq_self_eq_true, hx0, hO2, hR2, hO3, hR3, look_set (blt hO3), List.set_set, hX2, hg, hR4]) | refine WA_seq ?_ | refine WA_block ?_ | (refine WA_skip ?_; try simp only [go_sem]) | (refine WA_ret ?_; try simp only [go_sem]) | refine WA_ct rfl ?_ | refine WA_cf rfl ?_))
          refine ret_full (by first | exact .inr rfl | exact .inl rfl) (by simpa using hlen) ?_
          simp (maxSteps := 1000000) (disch := first | omega | rfl | decide | (simp only [List.length_cons, List.length_nil, List.length_append, Bs_length, Is_length, Vs_length, Bl_length, Il_length] <;> omega)) only [go_sem, Nat.reduceAdd, Int.reduceAdd, Int.reduceSub, Int.reduceMul, Bool.not_true, Bool.not_false, look_set (blt hR4)]
          try rfl
        · obtain ⟨st, e0, hI, hRt⟩ := seq_ex (S := List Blk × (Nat → UInt8)) (n := 16)
            (I := fun _ s => s.1[h.length + 1]? = some ⟨Bs 16 s.2, true⟩ ∧ s.1[h.length]? = some ⟨Bs 16 zeroF, true⟩ ∧ Aft h s.1 b cv)
            (R := fun k s t => ∃ (v : UInt8) (M : List Blk), AC Try.prog 164 [pt b 0] s.1 (B v) M ∧ M[h.length + 1]? = some ⟨Bs 16 s.2, true⟩ ∧ t = (M.set (h.length + 1) ⟨Bs 16 (upd s.2 k v), true⟩, upd s.2 k v))
            (h1, unitF) ⟨hO, hR, A1⟩ (fun k hk s0 ⟨i1, i2, i3⟩ => by
              obtain ⟨v, M, a, c⟩ := drawByte_aft i3.src
              have j1 := a.keep _ _ (by omega) i1
              have j2 := a.keep _ _ (by omega) i2
              exact ⟨_, ⟨look_set (blt j1), set_at j2 (by omega), (i3.trans a).set s (by omega) _⟩, v, M, c, j1, rfl⟩)
          obtain ⟨f1, f2, f3⟩ := hI 16 (Nat.le_refl _)
          obtain ⟨z, h9, _, a9, c9⟩ := next_aft f3.src (N := 8) (by omega) (by omega)
          have A9 := f3.trans a9
          have k1 := a9.keep _ _ (by omega) f1
          have k2 := a9.keep _ _ (by omega) f2
          have hlen := A9.len
          have hx2 : (x == 2) = false := by simpa using h2x
          have hx3 : (x == 3) = false := by simpa using h3x
          by_cases hz0 : z = 0
          · subst hz0
            generalize hg : over (st 16).2 (3 * 4) 4 (fun i => (st 16).2 (0 * 4 + i)) = g
            have hR4 := set_at (x := ⟨Bs 16 g, true⟩) k2 (show h.length + 1 ≠ h.length by omega)
            refine ⟨g, _, (A9.set s (Nat.le_succ _) ⟨Bs 16 g, true⟩).set s (Nat.le_refl _) ⟨Bs 16 g, true⟩, ?_⟩
            by_cases hx1 : x = 1
            · subst hx1
              have hf : fieldB m.toNat = false := by simpa using h1x
              (refine AC_begin (fun _ _ => Try.call173 _ _) Try.func173 rfl Try.ntmps173 Try.results173 (fun hwf => ?_); simp only [List.length_cons, List.length_nil, Nat.reduceAdd, Nat.reduceSub, List.replicate, List.cons_append, List.nil_append])
              (repeat (first | ((first | (refine And.intro ?_ ?_; focus (first | exact plain_agg (by simp only [go_sem]) | exact plain_two (by first | exact plain_agg (by simp only [go_sem]) | rfl) rfl | rfl)) | ((first | with_reducible apply callB_i | with_reducible apply callK_intro | with_reducible apply callQ_i); (focus (first | assumption | ((first | with_reducible apply unitS_ac | with_reducible apply c1 | with_reducible apply fieldS_ac) <;> (first | assumption | rfl | (simp (disch := omega) only [go_sem]; first | done | rfl) | omega | decide | (simp; done))))); (try (focus (refine WP.mk ?_ ?_; (focus ((repeat (first | exact trivial | (refine And.intro ?_ ?_; (focus first | exact plainV_wf rfl | (refine plainV_wf (plain_agg ?_); simp only [go_sem]; done) | (simp only [wfV, wf1, wfC, List.length_append, List.length_cons, List.length_nil]; omega))))))); (focus (first | rfl | (refine plain_agg ?_; simp only [go_sem]; done) | (refine plain_two ?_ ?_ <;> first | rfl | (refine plain_agg ?_; simp only [go_sem]; done)))))))) | refine WA_seq (WA_region ?_) | refine WA_region ?_ | refine WA_exit ?_); try simp (maxSteps := 1000000) (disch := first | omega | rfl | decide | (simp only [List.length_cons, List.length_nil, List.length_append, Bs_length, Is_length, Vs_length, Bl_length, Il_length] <;> omega)) only [go_sem, Nat.reduceAdd, Int.reduceAdd, Int.reduceSub, Int.reduceMul, Bool.not_true, Bool.not_false, beq_self_eq_true, hx0, hf]) | refine WA_seq ?_ | refine WA_block ?_ | (refine WA_skip ?_; try simp only [go_sem]) | (refine WA_ret ?_; try simp only [go_sem]) | refine WA_ct rfl ?_ | refine WA_cf rfl ?_))
              refine WA_forH (fun k => [(10, .int .i64 k), (11, J), (81, J), (82, J), (83, J), (84, J), (85, J), (86, J), (87, J), (88, J), (89, J), (90, J), (91, J), (92, J), (93, J), (94, J)]) (fun k => (st (k * 4)).1) (4) ?_ ?_ ?_ <;> (try simp only [patT_cons, patT_nil, patL_cons, patL_nil, list_set_zero, list_set_succ, blk_set_zero, blk_set_succ])
              · have e1 : (st (0 * 4)).1 = h1 := by rw [Nat.zero_mul, e0]
                have l1 := A1.len
                rw [e1]
                (refine Drop_slots (by first | assumption | exact Nat.le_refl _) ?_; focus ((try simp only [JL_same, JL_J, JL_nil, Int.reduceAdd, Nat.sub_sub, Int.natCast_add, Int.natCast_one, Int.natCast_zero, Int.cast_ofNat_Int, Nat.add_zero, Bool.false_eq_true, if_false, if_true]); (try exact JL_refl _)))
              · intro i hi
                (repeat (first | ((first | (refine And.intro ?_ ?_; focus (first | exact plain_agg (by simp only [go_sem]) | exact plain_two (by first | exact plain_agg (by simp only [go_sem]) | rfl) rfl | rfl)) | refine WA_seq (WA_region ?_) | refine WA_region ?_ | refine WA_exit ?_); try simp (maxSteps := 1000000) (disch := first | omega | rfl | decide | (simp only [List.length_cons, List.length_nil, List.length_append, Bs_length, Is_length, Vs_length, Bl_length, Il_length] <;> omega)) only [go_sem, Nat.reduceAdd, Int.reduceAdd, Int.reduceSub, Int.reduceMul, Bool.not_true, Bool.not_false]) | refine WA_seq ?_ | refine WA_block ?_ | (refine WA_skip ?_; try simp only [go_sem]) | (refine WA_ret ?_; try simp only [go_sem]) | refine WA_ct rfl ?_ | refine WA_cf rfl ?_))
                refine WA_forH (fun k => [(11, .int .i64 k), (85, J), (86, J), (87, J), (88, J), (89, J), (90, J), (91, J), (92, J), (93, J), (94, J)]) (fun k => (st (i * 4 + k)).1) (4) ?_ ?_ ?_ <;> (try simp only [patT_cons, patT_nil, patL_cons, patL_nil, list_set_zero, list_set_succ, blk_set_zero, blk_set_succ])
                · have l1 := (hI (i * 4) (by omega)).2.2.len
                  rw [Nat.add_zero]
                  (refine Drop_slots (by first | assumption | exact Nat.le_refl _) ?_; focus ((try simp only [JL_same, JL_J, JL_nil, Int.reduceAdd, Nat.sub_sub, Int.natCast_add, Int.natCast_one, Int.natCast_zero, Int.cast_ofNat_Int, Nat.add_zero, Bool.false_eq_true, if_false, if_true]); (try exact JL_refl _)))
                · intro j hj
                  obtain ⟨v, M, c, j1, e⟩ := hRt (i * 4 + j) (by omega)
                  have l1 := (hI (i * 4 + j + 1) (by omega)).2.2.len
                  rw [← Nat.add_assoc]
                  rw [e] at l1 ⊢
                  (repeat (first | ((first | (refine And.intro ?_ ?_; focus (first | exact plain_agg (by simp only [go_sem]) | exact plain_two (by first | exact plain_agg (by simp only [go_sem]) | rfl) rfl | rfl)) | ((first | with_reducible apply callB_i | with_reducible apply callK_intro | with_reducible apply callQ_i); (focus (first | assumption | (with_reducible apply c <;> (first | assumption | rfl | (simp (disch := omega) only [go_sem]; first | done | rfl) | omega | decide | (simp; done))))); (try (focus (refine WP.mk ?_ ?_; (focus ((repeat (first | exact trivial | (refine And.intro ?_ ?_; (focus first | exact plainV_wf rfl | (refine plainV_wf (plain_agg ?_); simp only [go_sem]; done) | (simp only [wfV, wf1, wfC, List.length_append, List.length_cons, List.length_nil]; omega))))))); (focus (first | rfl | (refine plain_agg ?_; simp only [go_sem]; done) | (refine plain_two ?_ ?_ <;> first | rfl | (refine plain_agg ?_; simp only [go_sem]; done)))))))) | refine WA_seq (WA_region ?_) | refine WA_region ?_ | refine WA_exit ?_); try simp (maxSteps := 1000000) (disch := first | omega | rfl | decide | (simp only [List.length_cons, List.length_nil, List.length_append, Bs_length, Is_length, Vs_length, Bl_length, Il_length] <;> omega)) only [go_sem, Nat.reduceAdd, Int.reduceAdd, Int.reduceSub, Int.reduceMul, Bool.not_true, Bool.not_false, j1]) | (refine (WA_rb (id := 27) [3, 6] (SubM.refl _) mixedOk ?_); simp only [List.size_toArray, List.length_cons, List.length_nil]; (repeat (first | ((first | (refine And.intro ?_ ?_; focus (first | exact plain_agg (by simp only [go_sem]) | exact plain_two (by first | exact plain_agg (by simp only [go_sem]) | rfl) rfl | rfl)) | ((first | with_reducible apply callB_i | with_reducible apply callK_intro | with_reducible apply callQ_i); (focus (first | assumption | (with_reducible apply c <;> (first | assumption | rfl | (simp (disch := omega) only [go_sem]; first | done | rfl) | omega | decide | (simp; done))))); (try (focus (refine WP.mk ?_ ?_; (focus ((repeat (first | exact trivial | (refine And.intro ?_ ?_; (focus first | exact plainV_wf rfl | (refine plainV_wf (plain_agg ?_); simp only [go_sem]; done) | (simp only [wfV, wf1, wfC, List.length_append, List.length_cons, List.length_nil]; omega))))))); (focus (first | rfl | (refine plain_agg ?_; simp only [go_sem]; done) | (refine plain_two ?_ ?_ <;> first | rfl | (refine plain_agg ?_; simp only [go_sem]; done)))))))) | refine RB_take false [0, 1, 2, 4] 3 (by rfl) (by kernel_rfl) (by decide) (by decide +kernel) ?_ | refine RB_exec 3 _ (by rfl) (by decide +kernel) (by decide +kernel) ?_ | refine RB_take false [5] 1 (by rfl) (by kernel_rfl) (by decide) (by decide +kernel) ?_ | refine RB_exec 6 _ (by rfl) (by decide +kernel) (by decide +kernel) ?_ | refine RB_done (by decide +kernel) ?_); try simp (maxSteps := 1000000) (disch := first | omega | rfl | decide | (simp only [List.length_cons, List.length_nil, List.length_append, Bs_length, Is_length, Vs_length, Bl_length, Il_length] <;> omega)) only [go_sem, Nat.reduceAdd, Int.reduceAdd, Int.reduceSub, Int.reduceMul, Bool.not_true, Bool.not_false, j1])))) | refine WA_seq ?_ | refine WA_block ?_ | (refine WA_skip ?_; try simp only [go_sem]) | (refine WA_ret ?_; try simp only [go_sem]) | refine WA_ct rfl ?_ | refine WA_cf rfl ?_))
                  all_goals (refine Drop_slots (by first | assumption | exact Nat.le_refl _) ?_; focus ((try simp only [JL_same, JL_J, JL_nil, Int.reduceAdd, Nat.sub_sub, Int.natCast_add, Int.natCast_one, Int.natCast_zero, Int.cast_ofNat_Int, Nat.add_zero, Bool.false_eq_true, if_false, if_true]); (try exact JL_refl _)))
                · have l1 := (hI (i * 4 + 4) (by omega)).2.2.len
                  rw [show (i + 1) * 4 = i * 4 + 4 by omega]
                  (repeat (first | ((first | (refine And.intro ?_ ?_; focus (first | exact plain_agg (by simp only [go_sem]) | exact plain_two (by first | exact plain_agg (by simp only [go_sem]) | rfl) rfl | rfl)) | refine WA_seq (WA_region ?_) | refine WA_region ?_ | refine WA_exit ?_); try simp (maxSteps := 1000000) (disch := first | omega | rfl | decide | (simp only [List.length_cons, List.length_nil, List.length_append, Bs_length, Is_length, Vs_length, Bl_length, Il_length] <;> omega)) only [go_sem, Nat.reduceAdd, Int.reduceAdd, Int.reduceSub, Int.reduceMul, Bool.not_true, Bool.not_false]) | refine WA_seq ?_ | refine WA_block ?_ | (refine WA_skip ?_; try simp only [go_sem]) | (refine WA_ret ?_; try simp only [go_sem]) | refine WA_ct rfl ?_ | refine WA_cf rfl ?_))
                  (refine Drop_slots (by first | assumption | exact Nat.le_refl _) ?_; focus ((try simp only [JL_same, JL_J, JL_nil, Int.reduceAdd, Nat.sub_sub, Int.natCast_add, Int.natCast_one, Int.natCast_zero, Int.cast_ofNat_Int, Nat.add_zero, Bool.false_eq_true, if_false, if_true]); (try exact JL_refl _)))
              · rw [show 4 * 4 = 16 from rfl]
                (repeat (first | ((first | (refine And.intro ?_ ?_; focus (first | exact plain_agg (by simp only [go_sem]) | exact plain_two (by first | exact plain_agg (by simp only [go_sem]) | rfl) rfl | rfl)) | ((first | with_reducible apply callB_i | with_reducible apply callK_intro | with_reducible apply callQ_i); (focus (first | assumption | (with_reducible apply c9 <;> (first | assumption | rfl | (simp (disch := omega) only [go_sem]; first | done | rfl) | omega | decide | (simp; done))))); (try (focus (refine WP.mk ?_ ?_; (focus ((repeat (first | exact trivial | (refine And.intro ?_ ?_; (focus first | exact plainV_wf rfl | (refine plainV_wf (plain_agg ?_); simp only [go_sem]; done) | (simp only [wfV, wf1, wfC, List.length_append, List.length_cons, List.length_nil]; omega))))))); (focus (first | rfl | (refine plain_agg ?_; simp only [go_sem]; done) | (refine plain_two ?_ ?_ <;> first | rfl | (refine plain_agg ?_; simp only [go_sem]; done)))))))) | refine WA_seq (WA_region ?_) | refine WA_region ?_ | refine WA_exit ?_); try simp (maxSteps := 1000000) (disch := first | omega | rfl | decide | (simp only [List.length_cons, List.length_nil, List.length_append, Bs_length, Is_length, Vs_length, Bl_length, Il_length] <;> omega)) only [go_sem, Nat.reduceAdd, Int.reduceAdd, Int.reduceSub, Int.reduceMul, Bool.not_true, Bool.not_false, beq_self_eq_true, k1, k2, look_set (blt k1), hg, hR4]) | refine WA_seq ?_ | refine WA_block ?_ | (refine WA_skip ?_; try simp only [go_sem]) | (refine WA_ret ?_; try simp only [go_sem]) | refine WA_ct rfl ?_ | refine WA_cf rfl ?_))
                refine ret_full (by first | exact .inr rfl | exact .inl rfl) (by simpa using hlen) ?_
                simp (maxSteps := 1000000) (disch := first | omega | rfl | decide | (simp only [List.length_cons, List.length_nil, List.length_append, Bs_length, Is_length, Vs_length, Bl_length, Il_length] <;> omega)) only [go_sem, Nat.reduceAdd, Int.reduceAdd, Int.reduceSub, Int.reduceMul, Bool.not_true, Bool.not_false, look_set (blt hR4)]
                try rfl
            · have hx1' : (x == 1) = false := by simpa using hx1
              (refine AC_begin (fun _ _ => Try.call173 _ _) Try.func173 rfl Try.ntmps173 Try.results173 (fun hwf => ?_); simp only [List.length_cons, List.length_nil, Nat.reduceAdd, Nat.reduceSub, List.replicate, List.cons_append, List.nil_append])
              (repeat (first | ((first | (refine And.intro ?_ ?_; focus (first | exact plain_agg (by simp only [go_sem]) | exact plain_two (by first | exact plain_agg (by simp only [go_sem]) | rfl) rfl | rfl)) | ((first | with_reducible apply callB_i | with_reducible apply callK_intro | with_reducible apply callQ_i); (focus (first | assumption | ((first | with_reducible apply unitS_ac | with_reducible apply c1) <;> (first | assumption | rfl | (simp (disch := omega) only [go_sem]; first | done | rfl) | omega | decide | (simp; done))))); (try (focus (refine WP.mk ?_ ?_; (focus ((repeat (first | exact trivial | (refine And.intro ?_ ?_; (focus first | exact plainV_wf rfl | (refine plainV_wf (plain_agg ?_); simp only [go_sem]; done) | (simp only [wfV, wf1, wfC, List.length_append, List.length_cons, List.length_nil]; omega))))))); (focus (first | rfl | (refine plain_agg ?_; simp only [go_sem]; done) | (refine plain_two ?_ ?_ <;> first | rfl | (refine plain_agg ?_; simp only [go_sem]; done)))))))) | refine WA_seq (WA_region ?_) | refine WA_region ?_ | refine WA_exit ?_); try simp (maxSteps := 1000000) (disch := first | omega | rfl | decide | (simp only [List.length_cons, List.length_nil, List.length_append, Bs_length, Is_length, Vs_length, Bl_length, Il_length] <;> omega)) only [go_sem, Nat.reduceAdd, Int.reduceAdd, Int.reduceSub, Int.reduceMul, Bool.not_true, Bool.not_false, beq_self_eq_true, hx0, hx1', hx2, hx3]) | refine WA_seq ?_ | refine WA_block ?_ | (refine WA_skip ?_; try simp only [go_sem]) | (refine WA_ret ?_; try simp only [go_sem]) | refine WA_ct rfl ?_ | refine WA_cf rfl ?_))
              refine WA_forH (fun k => [(10, .int .i64 k), (11, J), (81, J), (82, J), (83, J), (84, J), (85, J), (86, J), (87, J), (88, J), (89, J), (90, J), (91, J), (92, J), (93, J), (94, J)]) (fun k => (st (k * 4)).1) (4) ?_ ?_ ?_ <;> (try simp only [patT_cons, patT_nil, patL_cons, patL_nil, list_set_zero, list_set_succ, blk_set_zero, blk_set_succ])
              · have e1 : (st (0 * 4)).1 = h1 := by rw [Nat.zero_mul, e0]
                have l1 := A1.len
                rw [e1]
                (refine Drop_slots (by first | assumption | exact Nat.le_refl _) ?_; focus ((try simp only [JL_same, JL_J, JL_nil, Int.reduceAdd, Nat.sub_sub, Int.natCast_add, Int.natCast_one, Int.natCast_zero, Int.cast_ofNat_Int, Nat.add_zero, Bool.false_eq_true, if_false, if_true]); (try exact JL_refl _)))
              · intro i hi
                (repeat (first | ((first | (refine And.intro ?_ ?_; focus (first | exact plain_agg (by simp only [go_sem]) | exact plain_two (by first | exact plain_agg (by simp only [go_sem]) | rfl) rfl | rfl)) | refine WA_seq (WA_region ?_) | refine WA_region ?_ | refine WA_exit ?_); try simp (maxSteps := 1000000) (disch := first | omega | rfl | decide | (simp only [List.length_cons, List.length_nil, List.length_append, Bs_length, Is_length, Vs_length, Bl_length, Il_length] <;> omega)) only [go_sem, Nat.reduceAdd, Int.reduceAdd, Int.reduceSub, Int.reduceMul, Bool.not_true, Bool.not_false]) | refine WA_seq ?_ | refine WA_block ?_ | (refine WA_skip ?_; try simp only [go_sem]) | (refine WA_ret ?_; try simp only [go_sem]) | refine WA_ct rfl ?_ | refine WA_cf rfl ?_))
                refine WA_forH (fun k => [(11, .int .i64 k), (85, J), (86, J), (87, J), (88, J), (89, J), (90, J), (91, J), (92, J), (93, J), (94, J)]) (fun k => (st (i * 4 + k)).1) (4) ?_ ?_ ?_ <;> (try simp only [patT_cons, patT_nil, patL_cons, patL_nil, list_set_zero, list_set_succ, blk_set_zero, blk_set_succ])
                · have l1 := (hI (i * 4) (by omega)).2.2.len
                  rw [Nat.add_zero]
                  (refine Drop_slots (by first | assumption | exact Nat.le_refl _) ?_; focus ((try simp only [JL_same, JL_J, JL_nil, Int.reduceAdd, Nat.sub_sub, Int.natCast_add, Int.natCast_one, Int.natCast_zero, Int.cast_ofNat_Int, Nat.add_zero, Bool.false_eq_true, if_false, if_true]); (try exact JL_refl _)))
                · intro j hj
                  obtain ⟨v, M, c, j1, e⟩ := hRt (i * 4 + j) (by omega)
                  have l1 := (hI (i * 4 + j + 1) (by omega)).2.2.len
                  rw [← Nat.add_assoc]
                  rw [e] at l1 ⊢
                  (repeat (first | ((first | (refine And.intro ?_ ?_; focus (first | exact plain_agg (by simp only [go_sem]) | exact plain_two (by first | exact plain_agg (by simp only [go_sem]) | rfl) rfl | rfl)) | ((first | with_reducible apply callB_i | with_reducible apply callK_intro | with_reducible apply callQ_i); (focus (first | assumption | (with_reducible apply c <;> (first | assumption | rfl | (simp (disch := omega) only [go_sem]; first | done | rfl) | omega | decide | (simp; done))))); (try (focus (refine WP.mk ?_ ?_; (focus ((repeat (first | exact trivial | (refine And.intro ?_ ?_; (focus first | exact plainV_wf rfl | (refine plainV_wf (plain_agg ?_); simp only [go_sem]; done) | (simp only [wfV, wf1, wfC, List.length_append, List.length_cons, List.length_nil]; omega))))))); (focus (first | rfl | (refine plain_agg ?_; simp only [go_sem]; done) | (refine plain_two ?_ ?_ <;> first | rfl | (refine plain_agg ?_; simp only [go_sem]; done)))))))) | refine WA_seq (WA_region ?_) | refine WA_region ?_ | refine WA_exit ?_); try simp (maxSteps := 1000000) (disch := first | omega | rfl | decide | (simp only [List.length_cons, List.length_nil, List.length_append, Bs_length, Is_length, Vs_length, Bl_length, Il_length] <;> omega)) only [go_sem, Nat.reduceAdd, Int.reduceAdd, Int.reduceSub, Int.reduceMul, Bool.not_true, Bool.not_false, j1]) | (refine (WA_rb (id := 27) [3, 6] (SubM.refl _) mixedOk ?_); simp only [List.size_toArray, List.length_cons, List.length_nil]; (repeat (first | ((first | (refine And.intro ?_ ?_; focus (first | exact plain_agg (by simp only [go_sem]) | exact plain_two (by first | exact plain_agg (by simp only [go_sem]) | rfl) rfl | rfl)) | ((first | with_reducible apply callB_i | with_reducible apply callK_intro | with_reducible apply callQ_i); (focus (first | assumption | (with_reducible apply c <;> (first | assumption | rfl | (simp (disch := omega) only [go_sem]; first | done | rfl) | omega | decide | (simp; done))))); (try (focus (refine WP.mk ?_ ?_; (focus ((repeat (first | exact trivial | (refine And.intro ?_ ?_; (focus first | exact plainV_wf rfl | (refine plainV_wf (plain_agg ?_); simp only [go_sem]; done) | (simp only [wfV, wf1, wfC, List.length_append, List.length_cons, List.length_nil]; omega))))))); (focus (first | rfl | (refine plain_agg ?_; simp only [go_sem]; done) | (refine plain_two ?_ ?_ <;> first | rfl | (refine plain_agg ?_; simp only [go_sem]; done)))))))) | refine RB_take false [0, 1, 2, 4] 3 (by rfl) (by kernel_rfl) (by decide) (by decide +kernel) ?_ | refine RB_exec 3 _ (by rfl) (by decide +kernel) (by decide +kernel) ?_ | refine RB_take false [5] 1 (by rfl) (by kernel_rfl) (by decide) (by decide +kernel) ?_ | refine RB_exec 6 _ (by rfl) (by decide +kernel) (by decide +kernel) ?_ | refine RB_done (by decide +kernel) ?_); try simp (maxSteps := 1000000) (disch := first | omega | rfl | decide | (simp only [List.length_cons, List.length_nil, List.length_append, Bs_length, Is_length, Vs_length, Bl_length, Il_length] <;> omega)) only [go_sem, Nat.reduceAdd, Int.reduceAdd, Int.reduceSub, Int.reduceMul, Bool.not_true, Bool.not_false, j1])))) | refine WA_seq ?_ | refine WA_block ?_ | (refine WA_skip ?_; try simp only [go_sem]) | (refine WA_ret ?_; try simp only [go_sem]) | refine WA_ct rfl ?_ | refine WA_cf rfl ?_))
                  all_goals (refine Drop_slots (by first | assumption | exact Nat.le_refl _) ?_; focus ((try simp only [JL_same, JL_J, JL_nil, Int.reduceAdd, Nat.sub_sub, Int.natCast_add, Int.natCast_one, Int.natCast_zero, Int.cast_ofNat_Int, Nat.add_zero, Bool.false_eq_true, if_false, if_true]); (try exact JL_refl _)))
                · have l1 := (hI (i * 4 + 4) (by omega)).2.2.len
                  rw [show (i + 1) * 4 = i * 4 + 4 by omega]
                  (repeat (first | ((first | (refine And.intro ?_ ?_; focus (first | exact plain_agg (by simp only [go_sem]) | exact plain_two (by first | exact plain_agg (by simp only [go_sem]) | rfl) rfl | rfl)) | refine WA_seq (WA_region ?_) | refine WA_region ?_ | refine WA_exit ?_); try simp (maxSteps := 1000000) (disch := first | omega | rfl | decide | (simp only [List.length_cons, List.length_nil, List.length_append, Bs_length, Is_length, Vs_length, Bl_length, Il_length] <;> omega)) only [go_sem, Nat.reduceAdd, Int.reduceAdd, Int.reduceSub, Int.reduceMul, Bool.not_true, Bool.not_false]) | refine WA_seq ?_ | refine WA_block ?_ | (refine WA_skip ?_; try simp only [go_sem]) | (refine WA_ret ?_; try simp only [go_sem]) | refine WA_ct rfl ?_ | refine WA_cf rfl ?_))
                  (refine Drop_slots (by first | assumption | exact Nat.le_refl _) ?_; focus ((try simp only [JL_same, JL_J, JL_nil, Int.reduceAdd, Nat.sub_sub, Int.natCast_add, Int.natCast_one, Int.natCast_zero, Int.cast_ofNat_Int, Nat.add_zero, Bool.false_eq_true, if_false, if_true]); (try exact JL_refl _)))
              · rw [show 4 * 4 = 16 from rfl]
                (repeat (first | ((first | (refine And.intro ?_ ?_; focus (first | exact plain_agg (by simp only [go_sem]) | exact plain_two (by first | exact plain_agg (by simp only [go_sem]) | rfl) rfl | rfl)) | ((first | with_reducible apply callB_i | with_reducible apply callK_intro | with_reducible apply callQ_i); (focus (first | assumption | (with_reducible apply c9 <;> (first | assumption | rfl | (simp (disch := omega) only [go_sem]; first | done | rfl) | omega | decide | (simp; done))))); (try (focus (refine WP.mk ?_ ?_; (focus ((repeat (first | exact trivial | (refine And.intro ?_ ?_; (focus first | exact plainV_wf rfl | (refine plainV_wf (plain_agg ?_); simp only [go_sem]; done) | (simp only [wfV, wf1, wfC, List.length_append, List.length_cons, List.length_nil]; omega))))))); (focus (first | rfl | (refine plain_agg ?_; simp only [go_sem]; done) | (refine plain_two ?_ ?_ <;> first | rfl | (refine plain_agg ?_; simp only [go_sem]; done)))))))) | refine WA_seq (WA_region ?_) | refine WA_region ?_ | refine WA_exit ?_); try simp (maxSteps := 1000000) (disch := first | omega | rfl | decide | (simp only [List.length_cons, List.length_nil, List.length_append, Bs_length, Is_length, Vs_length, Bl_length, Il_length] <;> omega)) only [go_sem, Nat.reduceAdd, Int.reduceAdd, Int.reduceSub, Int.reduceMul, Bool.not_true, Bool.not_false, beq_self_eq_true, k1, k2, look_set (blt k1), hg, hR4]) | refine WA_seq ?_ | refine WA_block ?_ | (refine WA_skip ?_; try simp only [go_sem]) | (refine WA_ret ?_; try simp only [go_sem]) | refine WA_ct rfl ?_ | refine WA_cf rfl ?_))
                refine ret_full (by first | exact .inr rfl | exact .inl rfl) (by simpa using hlen) ?_
                simp (maxSteps := 1000000) (disch := first | omega | rfl | decide | (simp only [List.length_cons, List.length_nil, List.length_append, Bs_length, Is_length, Vs_length, Bl_length, Il_length] <;> omega)) only [go_sem, Nat.reduceAdd, Int.reduceAdd, Int.reduceSub, Int.reduceMul, Bool.not_true, Bool.not_false, look_set (blt hR4)]
                try rfl
          · have hz : (z == 0) = false := by simpa using hz0
            refine ⟨(st 16).2, h9.set h.length ⟨Bs 16 (st 16).2, true⟩, A9.set s (Nat.le_refl _) _, ?_⟩
            by_cases hx1 : x = 1
            · subst hx1
              have hf : fieldB m.toNat = false := by simpa using h1x
              (refine AC_begin (fun _ _ => Try.call173 _ _) Try.func173 rfl Try.ntmps173 Try.results173 (fun hwf => ?_); simp only [List.length_cons, List.length_nil, Nat.reduceAdd, Nat.reduceSub, List.replicate, List.cons_append, List.nil_append])
              (repeat (first | ((first | (refine And.intro ?_ ?_; focus (first | exact plain_agg (by simp only [go_sem]) | exact plain_two (by first | exact plain_agg (by simp only [go_sem]) | rfl) rfl | rfl)) | ((first | with_reducible apply callB_i | with_reducible apply callK_intro | with_reducible apply callQ_i); (focus (first | assumption | ((first | with_reducible apply unitS_ac | with_reducible apply c1 | with_reducible apply fieldS_ac) <;> (first | assumption | rfl | (simp (disch := omega) only [go_sem]; first | done | rfl) | omega | decide | (simp; done))))); (try (focus (refine WP.mk ?_ ?_; (focus ((repeat (first | exact trivial | (refine And.intro ?_ ?_; (focus first | exact plainV_wf rfl | (refine plainV_wf (plain_agg ?_); simp only [go_sem]; done) | (simp only [wfV, wf1, wfC, List.length_append, List.length_cons, List.length_nil]; omega))))))); (focus (first | rfl | (refine plain_agg ?_; simp only [go_sem]; done) | (refine plain_two ?_ ?_ <;> first | rfl | (refine plain_agg ?_; simp only [go_sem]; done)))))))) | refine WA_seq (WA_region ?_) | refine WA_region ?_ | refine WA_exit ?_); try simp (maxSteps := 1000000) (disch := first | omega | rfl | decide | (simp only [List.length_cons, List.length_nil, List.length_append, Bs_length, Is_length, Vs_length, Bl_length, Il_length] <;> omega)) only [go_sem, Nat.reduceAdd, Int.reduceAdd, Int.reduceSub, Int.reduceMul, Bool.not_true, Bool.not_false, beq_self_eq_true, hx0, hf]) | refine WA_seq ?_ | refine WA_block ?_ | (refine WA_skip ?_; try simp only [go_sem]) | (refine WA_ret ?_; try simp only [go_sem]) | refine WA_ct rfl ?_ | refine WA_cf rfl ?_))
              refine WA_forH (fun k => [(10, .int .i64 k), (11, J), (81, J), (82, J), (83, J), (84, J), (85, J), (86, J), (87, J), (88, J), (89, J), (90, J), (91, J), (92, J), (93, J), (94, J)]) (fun k => (st (k * 4)).1) (4) ?_ ?_ ?_ <;> (try simp only [patT_cons, patT_nil, patL_cons, patL_nil, list_set_zero, list_set_succ, blk_set_zero, blk_set_succ])
              · have e1 : (st (0 * 4)).1 = h1 := by rw [Nat.zero_mul, e0]
                have l1 := A1.len
                rw [e1]
                (refine Drop_slots (by first | assumption | exact Nat.le_refl _) ?_; focus ((try simp only [JL_same, JL_J, JL_nil, Int.reduceAdd, Nat.sub_sub, Int.natCast_add, Int.natCast_one, Int.natCast_zero, Int.cast_ofNat_Int, Nat.add_zero, Bool.false_eq_true, if_false, if_true]); (try exact JL_refl _)))
              · intro i hi
                (repeat (first | ((first | (refine And.intro ?_ ?_; focus (first | exact plain_agg (by simp only [go_sem]) | exact plain_two (by first | exact plain_agg (by simp only [go_sem]) | rfl) rfl | rfl)) | refine WA_seq (WA_region ?_) | refine WA_region ?_ | refine WA_exit ?_); try simp (maxSteps := 1000000) (disch := first | omega | rfl | decide | (simp only [List.length_cons, List.length_nil, List.length_append, Bs_length, Is_length, Vs_length, Bl_length, Il_length] <;> omega)) only [go_sem, Nat.reduceAdd, Int.reduceAdd, Int.reduceSub, Int.reduceMul, Bool.not_true, Bool.not_false]) | refine WA_seq ?_ | refine WA_block ?_ | (refine WA_skip ?_; try simp only [go_sem]) | (refine WA_ret ?_; try simp only [go_sem]) | refine WA_ct rfl ?_ | refine WA_cf rfl ?_))
                refine WA_forH (fun k => [(11, .int .i64 k), (85, J), (86, J), (87, J), (88, J), (89, J), (90, J), (91, J), (92, J), (93, J), (94, J)]) (fun k => (st (i * 4 + k)).1) (4) ?_ ?_ ?_ <;> (try simp only [patT_cons, patT_nil, patL_cons, patL_nil, list_set_zero, list_set_succ, blk_set_zero, blk_set_succ])
                · have l1 := (hI (i * 4) (by omega)).2.2.len
                  rw [Nat.add_zero]
                  (refine Drop_slots (by first | assumption | exact Nat.le_refl _) ?_; focus ((try simp only [JL_same, JL_J, JL_nil, Int.reduceAdd, Nat.sub_sub, Int.natCast_add, Int.natCast_one, Int.natCast_zero, Int.cast_ofNat_Int, Nat.add_zero, Bool.false_eq_true, if_false, if_true]); (try exact JL_refl _)))
                · intro j hj
                  obtain ⟨v, M, c, j1, e⟩ := hRt (i * 4 + j) (by omega)
                  have l1 := (hI (i * 4 + j + 1) (by omega)).2.2.len
                  rw [← Nat.add_assoc]
                  rw [e] at l1 ⊢
                  (repeat (first | ((first | (refine And.intro ?_ ?_; focus (first | exact plain_agg (by simp only [go_sem]) | exact plain_two (by first | exact plain_agg (by simp only [go_sem]) | rfl) rfl | rfl)) | ((first | with_reducible apply callB_i | with_reducible apply callK_intro | with_reducible apply callQ_i); (focus (first | assumption | (with_reducible apply c <;> (first | assumption | rfl | (simp (disch := omega) only [go_sem]; first | done | rfl) | omega | decide | (simp; done))))); (try (focus (refine WP.mk ?_ ?_; (focus ((repeat (first | exact trivial | (refine And.intro ?_ ?_; (focus first | exact plainV_wf rfl | (refine plainV_wf (plain_agg ?_); simp only [go_sem]; done) | (simp only [wfV, wf1, wfC, List.length_append, List.length_cons, List.length_nil]; omega))))))); (focus (first | rfl | (refine plain_agg ?_; simp only [go_sem]; done) | (refine plain_two ?_ ?_ <;> first | rfl | (refine plain_agg ?_; simp only [go_sem]; done)))))))) | refine WA_seq (WA_region ?_) | refine WA_region ?_ | refine WA_exit ?_); try simp (maxSteps := 1000000) (disch := first | omega | rfl | decide | (simp only [List.length_cons, List.length_nil, List.length_append, Bs_length, Is_length, Vs_length, Bl_length, Il_length] <;> omega)) only [go_sem, Nat.reduceAdd, Int.reduceAdd, Int.reduceSub, Int.reduceMul, Bool.not_true, Bool.not_false, j1]) | (refine (WA_rb (id := 27) [3, 6] (SubM.refl _) mixedOk ?_); simp only [List.size_toArray, List.length_cons, List.length_nil]; (repeat (first | ((first | (refine And.intro ?_ ?_; focus (first | exact plain_agg (by simp only [go_sem]) | exact plain_two (by first | exact plain_agg (by simp only [go_sem]) | rfl) rfl | rfl)) | ((first | with_reducible apply callB_i | with_reducible apply callK_intro | with_reducible apply callQ_i); (focus (first | assumption | (with_reducible apply c <;> (first | assumption | rfl | (simp (disch := omega) only [go_sem]; first | done | rfl) | omega | decide | (simp; done))))); (try (focus (refine WP.mk ?_ ?_; (focus ((repeat (first | exact trivial | (refine And.intro ?_ ?_; (focus first | exact plainV_wf rfl | (refine plainV_wf (plain_agg ?_); simp only [go_sem]; done) | (simp only [wfV, wf1, wfC, List.length_append, List.length_cons, List.length_nil]; omega))))))); (focus (first | rfl | (refine plain_agg ?_; simp only [go_sem]; done) | (refine plain_two ?_ ?_ <;> first | rfl | (refine plain_agg ?_; simp only [go_sem]; done)))))))) | refine RB_take false [0, 1, 2, 4] 3 (by rfl) (by kernel_rfl) (by decide) (by decide +kernel) ?_ | refine RB_exec 3 _ (by rfl) (by decide +kernel) (by decide +kernel) ?_ | refine RB_take false [5] 1 (by rfl) (by kernel_rfl) (by decide) (by decide +kernel) ?_ | refine RB_exec 6 _ (by rfl) (by decide +kernel) (by decide +kernel) ?_ | refine RB_done (by decide +kernel) ?_); try simp (maxSteps := 1000000) (disch := first | omega | rfl | decide | (simp only [List.length_cons, List.length_nil, List.length_append, Bs_length, Is_length, Vs_length, Bl_length, Il_length] <;> omega)) only [go_sem, Nat.reduceAdd, Int.reduceAdd, Int.reduceSub, Int.reduceMul, Bool.not_true, Bool.not_false, j1])))) | refine WA_seq ?_ | refine WA_block ?_ | (refine WA_skip ?_; try simp only [go_sem]) | (refine WA_ret ?_; try simp only [go_sem]) | refine WA_ct rfl ?_ | refine WA_cf rfl ?_))
                  all_goals (refine Drop_slots (by first | assumption | exact Nat.le_refl _) ?_; focus ((try simp only [JL_same, JL_J, JL_nil, Int.reduceAdd, Nat.sub_sub, Int.natCast_add, Int.natCast_one, Int.natCast_zero, Int.cast_ofNat_Int, Nat.add_zero, Bool.false_eq_true, if_false, if_true]); (try exact JL_refl _)))
                · have l1 := (hI (i * 4 + 4) (by omega)).2.2.len
                  rw [show (i + 1) * 4 = i * 4 + 4 by omega]
                  (repeat (first | ((first | (refine And.intro ?_ ?_; focus (first | exact plain_agg (by simp only [go_sem]) | exact plain_two (by first | exact plain_agg (by simp only [go_sem]) | rfl) rfl | rfl)) | refine WA_seq (WA_region ?_) | refine WA_region ?_ | refine WA_exit ?_); try simp (maxSteps := 1000000) (disch := first | omega | rfl | decide | (simp only [List.length_cons, List.length_nil, List.length_append, Bs_length, Is_length, Vs_length, Bl_length, Il_length] <;> omega)) only [go_sem, Nat.reduceAdd, Int.reduceAdd, Int.reduceSub, Int.reduceMul, Bool.not_true, Bool.not_false]) | refine WA_seq ?_ | refine WA_block ?_ | (refine WA_skip ?_; try simp only [go_sem]) | (refine WA_ret ?_; try simp only [go_sem]) | refine WA_ct rfl ?_ | refine WA_cf rfl ?_))
                  (refine Drop_slots (by first | assumption | exact Nat.le_refl _) ?_; focus ((try simp only [JL_same, JL_J, JL_nil, Int.reduceAdd, Nat.sub_sub, Int.natCast_add, Int.natCast_one, Int.natCast_zero, Int.cast_ofNat_Int, Nat.add_zero, Bool.false_eq_true, if_false, if_true]); (try exact JL_refl _)))
              · rw [show 4 * 4 = 16 from rfl]
                (repeat (first | ((first | (refine And.intro ?_ ?_; focus (first | exact plain_agg (by simp only [go_sem]) | exact plain_two (by first | exact plain_agg (by simp only [go_sem]) | rfl) rfl | rfl)) | ((first | with_reducible apply callB_i | with_reducible apply callK_intro | with_reducible apply callQ_i); (focus (first | assumption | (with_reducible apply c9 <;> (first | assumption | rfl | (simp (disch := omega) only [go_sem]; first | done | rfl) | omega | decide | (simp; done))))); (try (focus (refine WP.mk ?_ ?_; (focus ((repeat (first | exact trivial | (refine And.intro ?_ ?_; (focus first | exact plainV_wf rfl | (refine plainV_wf (plain_agg ?_); simp only [go_sem]; done) | (simp only [wfV, wf1, wfC, List.length_append, List.length_cons, List.length_nil]; omega))))))); (focus (first | rfl | (refine plain_agg ?_; simp only [go_sem]; done) | (refine plain_two ?_ ?_ <;> first | rfl | (refine plain_agg ?_; simp only [go_sem]; done)))))))) | refine WA_seq (WA_region ?_) | refine WA_region ?_ | refine WA_exit ?_); try simp (maxSteps := 1000000) (disch := first | omega | rfl | decide | (simp only [List.length_cons, List.length_nil, List.length_append, Bs_length, Is_length, Vs_length, Bl_length, Il_length] <;> omega)) only [go_sem, Nat.reduceAdd, Int.reduceAdd, Int.reduceSub, Int.reduceMul, Bool.not_true, Bool.not_false, hz, k1, k2]) | refine WA_seq ?_ | refine WA_block ?_ | (refine WA_skip ?_; try simp only [go_sem]) | (refine WA_ret ?_; try simp only [go_sem]) | refine WA_ct rfl ?_ | refine WA_cf rfl ?_))
                refine ret_full (by first | exact .inr rfl | exact .inl rfl) (by simpa using hlen) ?_
                simp (maxSteps := 1000000) (disch := first | omega | rfl | decide | (simp only [List.length_cons, List.length_nil, List.length_append, Bs_length, Is_length, Vs_length, Bl_length, Il_length] <;> omega)) only [go_sem, Nat.reduceAdd, Int.reduceAdd, Int.reduceSub, Int.reduceMul, Bool.not_true, Bool.not_false, look_set (blt k2)]
                try rfl
            · have hx1' : (x == 1) = false := by simpa using hx1
              (refine AC_begin (fun _ _ => Try.call173 _ _) Try.func173 rfl Try.ntmps173 Try.results173 (fun hwf => ?_); simp only [List.length_cons, List.length_nil, Nat.reduceAdd, Nat.reduceSub, List.replicate, List.cons_append, List.nil_append])
              (repeat (first | ((first | (refine And.intro ?_ ?_; focus (first | exact plain_agg (by simp only [go_sem]) | exact plain_two (by first | exact plain_agg (by simp only [go_sem]) | rfl) rfl | rfl)) | ((first | with_reducible apply callB_i | with_reducible apply callK_intro | with_reducible apply callQ_i); (focus (first | assumption | ((first | with_reducible apply unitS_ac | with_reducible apply c1) <;> (first | assumption | rfl | (simp (disch := omega) only [go_sem]; first | done | rfl) | omega | decide | (simp; done))))); (try (focus (refine WP.mk ?_ ?_; (focus ((repeat (first | exact trivial | (refine And.intro ?_ ?_; (focus first | exact plainV_wf rfl | (refine plainV_wf (plain_agg ?_); simp only [go_sem]; done) | (simp only [wfV, wf1, wfC, List.length_append, List.length_cons, List.length_nil]; omega))))))); (focus (first | rfl | (refine plain_agg ?_; simp only [go_sem]; done) | (refine plain_two ?_ ?_ <;> first | rfl | (refine plain_agg ?_; simp only [go_sem]; done)))))))) | refine WA_seq (WA_region ?_) | refine WA_region ?_ | refine WA_exit ?_); try simp (maxSteps := 1000000) (disch := first | omega | rfl | decide | (simp only [List.length_cons, List.length_nil, List.length_append, Bs_length, Is_length, Vs_length, Bl_length, Il_length] <;> omega)) only [go_sem, Nat.reduceAdd, Int.reduceAdd, Int.reduceSub, Int.reduceMul, Bool.not_true, Bool.not_false, beq_self_eq_true, hx0, hx1', hx2, hx3]) | refine WA_seq ?_ | refine WA_block ?_ | (refine WA_skip ?_; try simp only [go_sem]) | (refine WA_ret ?_; try simp only [go_sem]) | refine WA_ct rfl ?_ | refine WA_cf rfl ?_))
              refine WA_forH (fun k => [(10, .int .i64 k), (11, J), (81, J), (82, J), (83, J), (84, J), (85, J), (86, J), (87, J), (88, J), (89, J), (90, J), (91, J), (92, J), (93, J), (94, J)]) (fun k => (st (k * 4)).1) (4) ?_ ?_ ?_ <;> (try simp only [patT_cons, patT_nil, patL_cons, patL_nil, list_set_zero, list_set_succ, blk_set_zero, blk_set_succ])
              · have e1 : (st (0 * 4)).1 = h1 := by rw [Nat.zero_mul, e0]
                have l1 := A1.len
                rw [e1]
                (refine Drop_slots (by first | assumption | exact Nat.le_refl _) ?_; focus ((try simp only [JL_same, JL_J, JL_nil, Int.reduceAdd, Nat.sub_sub, Int.natCast_add, Int.natCast_one, Int.natCast_zero, Int.cast_ofNat_Int, Nat.add_zero, Bool.false_eq_true, if_false, if_true]); (try exact JL_refl _)))
              · intro i hi
                (repeat (first | ((first | (refine And.intro ?_ ?_; focus (first | exact plain_agg (by simp only [go_sem]) | exact plain_two (by first | exact plain_agg (by simp only [go_sem]) | rfl) rfl | rfl)) | refine WA_seq (WA_region ?_) | refine WA_region ?_ | refine WA_exit ?_); try simp (maxSteps := 1000000) (disch := first | omega | rfl | decide | (simp only [List.length_cons, List.length_nil, List.length_append, Bs_length, Is_length, Vs_length, Bl_length, Il_length] <;> omega)) only [go_sem, Nat.reduceAdd, Int.reduceAdd, Int.reduceSub, Int.reduceMul, Bool.not_true, Bool.not_false]) | refine WA_seq ?_ | refine WA_block ?_ | (refine WA_skip ?_; try simp only [go_sem]) | (refine WA_ret ?_; try simp only [go_sem]) | refine WA_ct rfl ?_ | refine WA_cf rfl ?_))
                refine WA_forH (fun k => [(11, .int .i64 k), (85, J), (86, J), (87, J), (88, J), (89, J), (90, J), (91, J), (92, J), (93, J), (94, J)]) (fun k => (st (i * 4 + k)).1) (4) ?_ ?_ ?_ <;> (try simp only [patT_cons, patT_nil, patL_cons, patL_nil, list_set_zero, list_set_succ, blk_set_zero, blk_set_succ])
                · have l1 := (hI (i * 4) (by omega)).2.2.len
                  rw [Nat.add_zero]
                  (refine Drop_slots (by first | assumption | exact Nat.le_refl _) ?_; focus ((try simp only [JL_same, JL_J, JL_nil, Int.reduceAdd, Nat.sub_sub, Int.natCast_add, Int.natCast_one, Int.natCast_zero, Int.cast_ofNat_Int, Nat.add_zero, Bool.false_eq_true, if_false, if_true]); (try exact JL_refl _)))
                · intro j hj
                  obtain ⟨v, M, c, j1, e⟩ := hRt (i * 4 + j) (by omega)
                  have l1 := (hI (i * 4 + j + 1) (by omega)).2.2.len
                  rw [← Nat.add_assoc]
                  rw [e] at l1 ⊢
                  (repeat (first | ((first | (refine And.intro ?_ ?_; focus (first | exact plain_agg (by simp only [go_sem]) | exact plain_two (by first | exact plain_agg (by simp only [go_sem]) | rfl) rfl | rfl)) | ((first | with_reducible apply callB_i | with_reducible apply callK_intro | with_reducible apply callQ_i); (focus (first | assumption | (with_reducible apply c <;> (first | assumption | rfl | (simp (disch := omega) only [go_sem]; first | done | rfl) | omega | decide | (simp; done))))); (try (focus (refine WP.mk ?_ ?_; (focus ((repeat (first | exact trivial | (refine And.intro ?_ ?_; (focus first | exact plainV_wf rfl | (refine plainV_wf (plain_agg ?_); simp only [go_sem]; done) | (simp only [wfV, wf1, wfC, List.length_append, List.length_cons, List.length_nil]; omega))))))); (focus (first | rfl | (refine plain_agg ?_; simp only [go_sem]; done) | (refine plain_two ?_ ?_ <;> first | rfl | (refine plain_agg ?_; simp only [go_sem]; done)))))))) | refine WA_seq (WA_region ?_) | refine WA_region ?_ | refine WA_exit ?_); try simp (maxSteps := 1000000) (disch := first | omega | rfl | decide | (simp only [List.length_cons, List.length_nil, List.length_append, Bs_length, Is_length, Vs_length, Bl_length, Il_length] <;> omega)) only [go_sem, Nat.reduceAdd, Int.reduceAdd, Int.reduceSub, Int.reduceMul, Bool.not_true, Bool.not_false, j1]) | (refine (WA_rb (id := 27) [3, 6] (SubM.refl _) mixedOk ?_); simp only [List.size_toArray, List.length_cons, List.length_nil]; (repeat (first | ((first | (refine And.intro ?_ ?_; focus (first | exact plain_agg (by simp only [go_sem]) | exact plain_two (by first | exact plain_agg (by simp only [go_sem]) | rfl) rfl | rfl)) | ((first | with_reducible apply callB_i | with_reducible apply callK_intro | with_reducible apply callQ_i); (focus (first | assumption | (with_reducible apply c <;> (first | assumption | rfl | (simp (disch := omega) only [go_sem]; first | done | rfl) | omega | decide | (simp; done))))); (try (focus (refine WP.mk ?_ ?_; (focus ((repeat (first | exact trivial | (refine And.intro ?_ ?_; (focus first | exact plainV_wf rfl | (refine plainV_wf (plain_agg ?_); simp only [go_sem]; done) | (simp only [wfV, wf1, wfC, List.length_append, List.length_cons, List.length_nil]; omega))))))); (focus (first | rfl | (refine plain_agg ?_; simp only [go_sem]; done) | (refine plain_two ?_ ?_ <;> first | rfl | (refine plain_agg ?_; simp only [go_sem]; done)))))))) | refine RB_take false [0, 1, 2, 4] 3 (by rfl) (by kernel_rfl) (by decide) (by decide +kernel) ?_ | refine RB_exec 3 _ (by rfl) (by decide +kernel) (by decide +kernel) ?_ | refine RB_take false [5] 1 (by rfl) (by kernel_rfl) (by decide) (by decide +kernel) ?_ | refine RB_exec 6 _ (by rfl) (by decide +kernel) (by decide +kernel) ?_ | refine RB_done (by decide +kernel) ?_); try simp (maxSteps := 1000000) (disch := first | omega | rfl | decide | (simp only [List.length_cons, List.length_nil, List.length_append, Bs_length, Is_length, Vs_length, Bl_length, Il_length] <;> omega)) only [go_sem, Nat.reduceAdd, Int.reduceAdd, Int.reduceSub, Int.reduceMul, Bool.not_true, Bool.not_false, j1])))) | refine WA_seq ?_ | refine WA_block ?_ | (refine WA_skip ?_; try simp only [go_sem]) | (refine WA_ret ?_; try simp only [go_sem]) | refine WA_ct rfl ?_ | refine WA_cf rfl ?_))
                  all_goals (refine Drop_slots (by first | assumption | exact Nat.le_refl _) ?_; focus ((try simp only [JL_same, JL_J, JL_nil, Int.reduceAdd, Nat.sub_sub, Int.natCast_add, Int.natCast_one, Int.natCast_zero, Int.cast_ofNat_Int, Nat.add_zero, Bool.false_eq_true, if_false, if_true]); (try exact JL_refl _)))
                · have l1 := (hI (i * 4 + 4) (by omega)).2.2.len
                  rw [show (i + 1) * 4 = i * 4 + 4 by omega]
                  (repeat (first | ((first | (refine And.intro ?_ ?_; focus (first | exact plain_agg (by simp only [go_sem]) | exact plain_two (by first | exact plain_agg (by simp only [go_sem]) | rfl) rfl | rfl)) | refine WA_seq (WA_region ?_) | refine WA_region ?_ | refine WA_exit ?_); try simp (maxSteps := 1000000) (disch := first | omega | rfl | decide | (simp only [List.length_cons, List.length_nil, List.length_append, Bs_length, Is_length, Vs_length, Bl_length, Il_length] <;> omega)) only [go_sem, Nat.reduceAdd, Int.reduceAdd, Int.reduceSub, Int.reduceMul, Bool.not_true, Bool.not_false]) | refine WA_seq ?_ | refine WA_block ?_ | (refine WA_skip ?_; try simp only [go_sem]) | (refine WA_ret ?_; try simp only [go_sem]) | refine WA_ct rfl ?_ | refine WA_cf rfl ?_))
                  (refine Drop_slots (by first | assumption | exact Nat.le_refl _) ?_; focus ((try simp only [JL_same, JL_J, JL_nil, Int.reduceAdd, Nat.sub_sub, Int.natCast_add, Int.natCast_one, Int.natCast_zero, Int.cast_ofNat_Int, Nat.add_zero, Bool.false_eq_true, if_false, if_true]); (try exact JL_refl _)))
              · rw [show 4 * 4 = 16 from rfl]
                (repeat (first | ((first | (refine And.intro ?_ ?_; focus (first | exact plain_agg (by simp only [go_sem]) | exact plain_two (by first | exact plain_agg (by simp only [go_sem]) | rfl) rfl | rfl)) | ((first | with_reducible apply callB_i | with_reducible apply callK_intro | with_reducible apply callQ_i); (focus (first | assumption | (with_reducible apply c9 <;> (first | assumption | rfl | (simp (disch := omega) only [go_sem]; first | done | rfl) | omega | decide | (simp; done))))); (try (focus (refine WP.mk ?_ ?_; (focus ((repeat (first | exact trivial | (refine And.intro ?_ ?_; (focus first | exact plainV_wf rfl | (refine plainV_wf (plain_agg ?_); simp only [go_sem]; done) | (simp only [wfV, wf1, wfC, List.length_append, List.length_cons, List.length_nil]; omega))))))); (focus (first | rfl | (refine plain_agg ?_; simp only [go_sem]; done) | (refine plain_two ?_ ?_ <;> first | rfl | (refine plain_agg ?_; simp only [go_sem]; done)))))))) | refine WA_seq (WA_region ?_) | refine WA_region ?_ | refine WA_exit ?_); try simp (maxSteps := 1000000) (disch := first | omega | rfl | decide | (simp only [List.length_cons, List.length_nil, List.length_append, Bs_length, Is_length, Vs_length, Bl_length, Il_length] <;> omega)) only [go_sem, Nat.reduceAdd, Int.reduceAdd, Int.reduceSub, Int.reduceMul, Bool.not_true, Bool.not_false, hz, k1, k2]) | refine WA_seq ?_ | refine WA_block ?_ | (refine WA_skip ?_; try simp only [go_sem]) | (refine WA_ret ?_; try simp only [go_sem]) | refine WA_ct rfl ?_ | refine WA_cf rfl ?_))
                refine ret_full (by first | exact .inr rfl | exact .inl rfl) (by simpa using hlen) ?_
                simp (maxSteps := 1000000) (disch := first | omega | rfl | decide | (simp only [List.length_cons, List.length_nil, List.length_append, Bs_length, Is_length, Vs_length, Bl_length, Il_length] <;> omega)) only [go_sem, Nat.reduceAdd, Int.reduceAdd, Int.reduceSub, Int.reduceMul, Bool.not_true, Bool.not_false, look_set (blt k2)]
                try rfl

end Go.Proofs.Ytkgiocoiojdgfaa
/- Draws for the law on matrices. -/
namespace Go.Proofs.Ytkgiocoiojdgfaa
set_option linter.unusedSimpArgs false
set_option linter.unusedVariables false
set_option maxRecDepth 20000
set_option maxHeartbeats 1000000
open Go.Abs

/-- Behind a region and the test that follows it the state is told. -/
theorem WA_mid2 {P : Program} {n0 : Nat} {a b c : Code} {Q Q' Q'' : Exit → AS → Prop} {t : List Value} {H : List Blk} (ps : List (Nat × Value)) (H' : List Blk)
    (h : WA P n0 a (Then (WA P n0 b (Then (fun s' => Drop n0 s' ⟨patT t ps, H'⟩) Q')) Q'') ⟨t, H⟩) (h2 : WA P n0 c Q ⟨patT t ps, H'⟩) : WA P n0 a (Then (WA P n0 b (Then (WA P n0 c Q) Q')) Q'') ⟨t, H⟩ :=
  WA_mono h fun e s' hq => by
    cases e <;> first
      | exact WA_mono hq fun e s'' hd => by cases e <;> first | exact WA_pre hd h2 | exact hd
      | exact hq
theorem one_shl {i : Nat} (h : i ≤ 60) : IntKind.i64.wrap (1 * 2 ^ min i 64) = ((1 <<< i : Nat) : Int) := by
  rw [Nat.min_eq_left (by omega), Int.one_mul, pow_cast, Nat.one_shiftLeft]
  refine wrap_N ?_
  exact Nat.lt_of_lt_of_le (Nat.pow_lt_pow_right (n := 61) (by omega) (by omega)) (by omega)
theorem drTmx_ex {h : List Blk} {cv : Value} (c : Cv h cv) : ∃ (m : Int) (f g : Nat → UInt8) (L : List Blk), AC Try.prog 72 [cv] h (.tuple #[.int .i64 m, .agg (Bs 16 f).toArray, .agg (Bs 16 g).toArray]) (h ++ L) := by
  obtain ⟨h1, s1, e1, c1⟩ := from_aft (c.app [⟨Bs 16 zeroF, true⟩, ⟨Bs 16 zeroF, true⟩])
  have hlA : (h ++ [(⟨Bs 16 zeroF, true⟩ : Blk), ⟨Bs 16 zeroF, true⟩]).length = h.length + 2 := by simp
  rw [hlA] at s1 c1
  have hl1 := s1.lt
  have hR0 : (h1)[h.length]? = some ⟨Bs 16 zeroF, true⟩ := by obtain ⟨L, rfl⟩ := e1; simp
  have hO0 : (h1)[h.length + 1]? = some ⟨Bs 16 zeroF, true⟩ := by obtain ⟨L, rfl⟩ := e1; simp
  obtain ⟨m, h2, a2, c2⟩ := spoil_aft s1
  obtain ⟨f, h3, a3, c3⟩ := l03Draw_aft a2.src m
  obtain ⟨g, h4, a4, c4⟩ := l03Draw_aft a3.src m
  have A := (a2.trans a3).trans a4
  have hR3 := A.keep _ _ (by omega) hR0
  have hO3 := A.keep _ _ (by omega) hO0
  have hO4 := set_at (x := ⟨Bs 16 f, true⟩) hO3 (show h.length ≠ h.length + 1 by omega)
  have hR5 := set_at (x := ⟨Bs 16 g, true⟩) (look_set (x := ⟨Bs 16 f, true⟩) (blt hR3)) (show h.length + 1 ≠ h.length by omega)
  have hlen : h.length ≤ h4.length := by have := A.len; omega
  obtain ⟨L, e⟩ : ∃ L, (h4.set h.length ⟨Bs 16 f, true⟩).set (h.length + 1) ⟨Bs 16 g, true⟩ = h ++ L := by
    obtain ⟨L1, r1⟩ := A.app h (by omega) (by obtain ⟨L, rfl⟩ := e1; exact ⟨_, List.append_assoc ..⟩)
    obtain ⟨L2, r2⟩ := app_set' (h0 := h) (L := L1) (i := h.length) (Nat.le_refl _) ⟨Bs 16 f, true⟩
    obtain ⟨L3, r3⟩ := app_set' (h0 := h) (L := L2) (i := h.length + 1) (by omega) ⟨Bs 16 g, true⟩
    exact ⟨L3, by rw [r1, r2, r3]⟩
  refine ⟨m, f, g, L, ?_⟩
  rw [← e]
  (refine AC_begin (fun _ _ => Try.call72 _ _) Try.func72 rfl Try.ntmps72 Try.results72 (fun hwf => ?_); simp only [List.length_cons, List.length_nil, Nat.reduceAdd, Nat.reduceSub, List.replicate, List.cons_append, List.nil_append])
  (repeat (first | ((first | (refine And.intro ?_ ?_; focus (first | exact plain_agg (by simp only [go_sem]) | exact plain_two (by first | exact plain_agg (by simp only [go_sem]) | rfl) rfl | rfl)) | ((first | with_reducible apply callB_i | with_reducible apply callK_intro | with_reducible apply callQ_i); (focus (first | assumption | ((first | with_reducible apply c1 | with_reducible apply c2 | with_reducible apply c3 | with_reducible apply c4) <;> (first | assumption | rfl | (simp (disch := omega) only [go_sem]; first | done | rfl) | omega | decide | (simp; done))))); (try (focus (refine WP.mk ?_ ?_; (focus ((repeat (first | exact trivial | (refine And.intro ?_ ?_; (focus first | exact plainV_wf rfl | (refine plainV_wf (plain_agg ?_); simp only [go_sem]; done) | (simp only [wfV, wf1, wfC, List.length_append, List.length_cons, List.length_nil]; omega))))))); (focus (first | rfl | (refine plain_agg ?_; simp only [go_sem]; done) | (refine plain_two ?_ ?_ <;> first | rfl | (refine plain_agg ?_; simp only [go_sem]; done)))))))) | refine WA_seq (WA_region ?_) | refine WA_region ?_ | refine WA_exit ?_); try simp (maxSteps := 1000000) (disch := first | omega | rfl | decide | (simp only [List.length_cons, List.length_nil, List.length_append, Bs_length, Is_length, Vs_length, Bl_length, Il_length] <;> omega)) only [go_sem, Nat.reduceAdd, Int.reduceAdd, Int.reduceSub, Int.reduceMul, Bool.not_true, Bool.not_false, hR3, hO3, hO4]) | refine WA_seq ?_ | refine WA_block ?_ | (refine WA_skip ?_; try simp only [go_sem]) | (refine WA_ret ?_; try simp only [go_sem]) | refine WA_ct rfl ?_ | refine WA_cf rfl ?_))
  refine ret_full (by first | exact .inr rfl | exact .inl rfl) (by simpa using hlen) ?_
  simp (maxSteps := 1000000) (disch := first | omega | rfl | decide | (simp only [List.length_cons, List.length_nil, List.length_append, Bs_length, Is_length, Vs_length, Bl_length, Il_length] <;> omega)) only [go_sem, Nat.reduceAdd, Int.reduceAdd, Int.reduceSub, Int.reduceMul, Bool.not_true, Bool.not_false, hR5, look_set (blt hO4)]
  try rfl
theorem drTmx_op {H : List Blk} {cv : Value} (c : Cv H cv) : ∃ (m : Int) (f g : Nat → UInt8) (H' : List Blk), (∃ A, H' = H ++ A) ∧ Cv H' cv ∧ AC Try.prog 72 [cv] H (.tuple #[.int .i64 m, .agg (Bs 16 f).toArray, .agg (Bs 16 g).toArray]) H' := by
  obtain ⟨m, f, g, L, d⟩ := drTmx_ex c
  exact ⟨m, f, g, H ++ L, ⟨L, rfl⟩, c.app L, d⟩

theorem one_ex {h : List Blk} {cv : Value} (c : Cv h cv) : ∃ (m : Int) (f : Nat → UInt8) (L : List Blk), AC Try.prog 183 [cv] h (.tuple #[.int .i64 m, .agg (Bs 16 f).toArray]) (h ++ L) := by
  obtain ⟨h1, s1, e1, c1⟩ := from_aft (c.app [⟨Bs 16 zeroF, true⟩])
  have hlA : (h ++ [(⟨Bs 16 zeroF, true⟩ : Blk)]).length = h.length + 1 := by simp
  rw [hlA] at s1 c1
  have hl1 := s1.lt
  have hR0 : (h1)[h.length]? = some ⟨Bs 16 zeroF, true⟩ := by obtain ⟨L, rfl⟩ := e1; simp
  obtain ⟨m, h2, a2, c2⟩ := spoil_aft s1
  obtain ⟨f, h3, a3, c3⟩ := l03Draw_aft a2.src m
  have A := a2.trans a3
  have hR3 := A.keep _ _ (by omega) hR0
  have hlen : h.length ≤ h3.length := by have := A.len; omega
  obtain ⟨L, e⟩ : ∃ L, h3.set h.length ⟨Bs 16 f, true⟩ = h ++ L := by
    obtain ⟨L1, r1⟩ := A.app h (by omega) (by obtain ⟨L, rfl⟩ := e1; exact ⟨_, List.append_assoc ..⟩)
    obtain ⟨L2, r2⟩ := app_set' (h0 := h) (L := L1) (i := h.length) (Nat.le_refl _) ⟨Bs 16 f, true⟩
    exact ⟨L2, by rw [r1, r2]⟩
  refine ⟨m, f, L, ?_⟩
  rw [← e]
  (refine AC_begin (fun _ _ => Try.call183 _ _) Try.func183 rfl Try.ntmps183 Try.results183 (fun hwf => ?_); simp only [List.length_cons, List.length_nil, Nat.reduceAdd, Nat.reduceSub, List.replicate, List.cons_append, List.nil_append])
  (repeat (first | ((first | (refine And.intro ?_ ?_; focus (first | exact plain_agg (by simp only [go_sem]) | exact plain_two (by first | exact plain_agg (by simp only [go_sem]) | rfl) rfl | rfl)) | ((first | with_reducible apply callB_i | with_reducible apply callK_intro | with_reducible apply callQ_i); (focus (first | assumption | ((first | with_reducible apply c1 | with_reducible apply c2 | with_reducible apply c3) <;> (first | assumption | rfl | (simp (disch := omega) only [go_sem]; first | done | rfl) | omega | decide | (simp; done))))); (try (focus (refine WP.mk ?_ ?_; (focus ((repeat (first | exact trivial | (refine And.intro ?_ ?_; (focus first | exact plainV_wf rfl | (refine plainV_wf (plain_agg ?_); simp only [go_sem]; done) | (simp only [wfV, wf1, wfC, List.length_append, List.length_cons, List.length_nil]; omega))))))); (focus (first | rfl | (refine plain_agg ?_; simp only [go_sem]; done) | (refine plain_two ?_ ?_ <;> first | rfl | (refine plain_agg ?_; simp only [go_sem]; done)))))))) | refine WA_seq (WA_region ?_) | refine WA_region ?_ | refine WA_exit ?_); try simp (maxSteps := 1000000) (disch := first | omega | rfl | decide | (simp only [List.length_cons, List.length_nil, List.length_append, Bs_length, Is_length, Vs_length, Bl_length, Il_length] <;> omega)) only [go_sem, Nat.reduceAdd, Int.reduceAdd, Int.reduceSub, Int.reduceMul, Bool.not_true, Bool.not_false, hR3]) | refine WA_seq ?_ | refine WA_block ?_ | (refine WA_skip ?_; try simp only [go_sem]) | (refine WA_ret ?_; try simp only [go_sem]) | refine WA_ct rfl ?_ | refine WA_cf rfl ?_))
  refine ret_full (by first | exact .inr rfl | exact .inl rfl) (by simpa using hlen) ?_
  simp (maxSteps := 1000000) (disch := first | omega | rfl | decide | (simp only [List.length_cons, List.length_nil, List.length_append, Bs_length, Is_length, Vs_length, Bl_length, Il_length] <;> omega)) only [go_sem, Nat.reduceAdd, Int.reduceAdd, Int.reduceSub, Int.reduceMul, Bool.not_true, Bool.not_false, look_set (blt hR3)]
  try rfl

theorem drOrm_op {H : List Blk} {cv : Value} (c : Cv H cv) : ∃ (m : Int) (f : Nat → UInt8) (H' : List Blk), (∃ A, H' = H ++ A) ∧ Cv H' cv ∧ AC Try.prog 86 [cv] H (.tuple #[.int .i64 m, .agg (Bs 16 f).toArray]) H' := by
  obtain ⟨m, f, L, d⟩ := one_ex (c.app [⟨Bs 16 zeroF, true⟩])
  refine ⟨m, f, H, ⟨[], (List.append_nil H).symm⟩, c, ?_⟩
  rw [List.append_assoc] at d
  (refine AC_begin (fun _ _ => Try.call86 _ _) Try.func86 rfl Try.ntmps86 Try.results86 (fun hwf => ?_); simp only [List.length_cons, List.length_nil, Nat.reduceAdd, Nat.reduceSub, List.replicate, List.cons_append, List.nil_append])
  (repeat (first | ((first | (refine And.intro ?_ ?_; focus (first | exact plain_agg (by simp only [go_sem]) | exact plain_two (by first | exact plain_agg (by simp only [go_sem]) | rfl) rfl | rfl)) | ((first | with_reducible apply callB_i | with_reducible apply callK_intro | with_reducible apply callQ_i); (focus (first | assumption | (with_reducible apply d <;> (first | assumption | rfl | (simp (disch := omega) only [go_sem]; first | done | rfl) | omega | decide | (simp; done))))); (try (focus (refine WP.mk ?_ ?_; (focus ((repeat (first | exact trivial | (refine And.intro ?_ ?_; (focus first | exact plainV_wf rfl | (refine plainV_wf (plain_agg ?_); simp only [go_sem]; done) | (simp only [wfV, wf1, wfC, List.length_append, List.length_cons, List.length_nil]; omega))))))); (focus (first | rfl | (refine plain_agg ?_; simp only [go_sem]; done) | (refine plain_two ?_ ?_ <;> first | rfl | (refine plain_agg ?_; simp only [go_sem]; done)))))))) | refine WA_seq (WA_region ?_) | refine WA_region ?_ | refine WA_exit ?_); try simp (maxSteps := 1000000) (disch := first | omega | rfl | decide | (simp only [List.length_cons, List.length_nil, List.length_append, Bs_length, Is_length, Vs_length, Bl_length, Il_length] <;> omega)) only [go_sem, Nat.reduceAdd, Int.reduceAdd, Int.reduceSub, Int.reduceMul, Bool.not_true, Bool.not_false]) | (refine (WA_rb (id := 2) [3] (SubM.refl _) mixedOk ?_); simp only [List.size_toArray, List.length_cons, List.length_nil]; (repeat (first | ((first | (refine And.intro ?_ ?_; focus (first | exact plain_agg (by simp only [go_sem]) | exact plain_two (by first | exact plain_agg (by simp only [go_sem]) | rfl) rfl | rfl)) | refine RB_take false [0, 2] 2 (by rfl) (by kernel_rfl) (by decide) (by decide +kernel) ?_ | refine RB_take true [1] 1 (by rfl) (by kernel_rfl) (by decide) (by decide +kernel) ?_ | refine RB_exec 3 _ (by rfl) (by decide +kernel) (by decide +kernel) ?_ | refine RB_done (by decide +kernel) ?_); try simp (maxSteps := 1000000) (disch := first | omega | rfl | decide | (simp only [List.length_cons, List.length_nil, List.length_append, Bs_length, Is_length, Vs_length, Bl_length, Il_length] <;> omega)) only [go_sem, Nat.reduceAdd, Int.reduceAdd, Int.reduceSub, Int.reduceMul, Bool.not_true, Bool.not_false])))) | refine WA_seq ?_ | refine WA_block ?_ | (refine WA_skip ?_; try simp only [go_sem]) | (refine WA_ret ?_; try simp only [go_sem]) | refine WA_ct rfl ?_ | refine WA_cf rfl ?_))
  all_goals ((first | refine ret_none (by first | exact .inr rfl | exact .inl rfl) ?_ | refine ret_same (by first | exact .inr rfl | exact .inl rfl) ?_ (by first | rfl | exact plain_agg (by simp only [go_sem]) | exact plain_two (by first | exact plain_agg (by simp only [go_sem]) | rfl) (by first | exact plain_agg (by simp only [go_sem]) | rfl)) | refine ret_full (by first | exact .inr rfl | exact .inl rfl) (by simp) ?_); simp (maxSteps := 1000000) (disch := first | omega | rfl | decide | (simp only [List.length_cons, List.length_nil, List.length_append, Bs_length, Is_length, Vs_length, Bl_length, Il_length] <;> omega)) only [go_sem, Nat.reduceAdd, Int.reduceAdd, Int.reduceSub, Int.reduceMul, Bool.not_true, Bool.not_false]; try rfl)

theorem Is_snoc2 (n : Nat) (f : Nat → Int) (x : Int) : Is n f ++ [.int .i64 x] = Is (n + 1) (upd f n x) := by
  unfold Is
  rw [List.range_succ, List.map_append]
  congr 1
  · refine List.map_congr_left fun i hi => ?_
    have := List.mem_range.1 hi
    unfold upd; rw [if_neg (by omega)]
  · show [_] = [Value.int .i64 (upd f n x n)]
    unfold upd; rw [if_pos rfl]
/-- The list that grows. -/
structure RbD where
  M : List Blk
  b : Nat
  v : Nat → Int
theorem drRkb_op {h : List Blk} {cv : Value} (c : Cv h cv) : ∃ (v : Nat → Int) (n b : Nat) (H : List Blk), n ≤ 1000 ∧ (∃ A, H = h ++ A) ∧ H[b]? = some ⟨Is n v, true⟩ ∧ AC Try.prog 89 [cv] h (sl b 0 n 1) H := by
  obtain ⟨h1, s1, e1, c1⟩ := from_aft c
  have hl1 := s1.lt
  have a0 := s1.more [⟨[], true⟩]
  obtain ⟨x1, h2, hx1, a1, d1⟩ := next_aft a0.src (N := 6) (by omega) (by omega)
  obtain ⟨x2, h3, hx2, a2, d2⟩ := next_aft a1.src (N := 40) (by omega) (by omega)
  obtain ⟨w, h4, hw, a3, d3⟩ := pickL_aft a2.src [.int .i64 x1, .int .i64 x2, .int .i64 200, .int .i64 201] (n := 4) rfl rfl (by omega) (by omega)
  obtain ⟨n, rfl, hn⟩ : ∃ n : Nat, w = n ∧ n ≤ 201 := by
    obtain ⟨i, hi, e⟩ := hw
    match i, hi, e with
    | 0, _, e => cases e; exact ⟨x1, rfl, by omega⟩
    | 1, _, e => cases e; exact ⟨x2, rfl, by omega⟩
    | 2, _, e => cases e; exact ⟨200, rfl, by omega⟩
    | 3, _, e => cases e; exact ⟨201, rfl, by omega⟩
    | n + 4, h, _ => exact absurd h (by omega)
  have A0 := ((a0.trans a1).trans a2).trans a3
  have hB := ((a1.trans a2).trans a3).keep h1.length ⟨[], true⟩ (by omega) (by simp)
  obtain ⟨st, e0, hI, hRt⟩ := seq_ex (S := RbD) (n := n)
    (I := fun k s => s.M[s.b]? = some ⟨Is k s.v, true⟩ ∧ Aft h1 s.M h.length cv ∧ h1.length ≤ s.b)
    (R := fun k s t => ∃ (y1 y2 y3 : Nat) (v : Int) (M1 M2 M3 M4 : List Blk), y2 < 32 ∧ y3 < 16777216 ∧ AC Try.prog 143 [pt h.length 0, .int .i64 ((16 : Nat) : Int)] s.M (.int .i64 y1) M1 ∧ AC Try.prog 143 [pt h.length 0, .int .i64 ((32 : Nat) : Int)] M1 (.int .i64 y2) M2 ∧ AC Try.prog 143 [pt h.length 0, .int .i64 ((16777216 : Nat) : Int)] M2 (.int .i64 y3) M3 ∧
      AC Try.prog 142 [pt h.length 0, sl M3.length 0 3 1] (M3 ++ [⟨[.int .i64 y1, .int .i64 ((1 <<< y2 : Nat) : Int), .int .i64 ((y3 <<< 8 : Nat) : Int)], true⟩]) (.int .i64 v) M4 ∧ M4[s.b]? = some ⟨Is k s.v, true⟩ ∧ t = ⟨M4.set s.b dead ++ [⟨[.int .i64 v], true⟩, ⟨Is (k + 1) (upd s.v k v), true⟩], M4.length + 1, upd s.v k v⟩)
    ⟨h4, h1.length, fun _ => 0⟩ ⟨hB, A0, Nat.le_refl _⟩ (fun k hk s0 ⟨i1, i2, i3⟩ => by
      obtain ⟨y1, M1, _, b1, f1⟩ := next_aft i2.src (N := 16) (by omega) (by omega)
      obtain ⟨y2, M2, g2, b2, f2⟩ := next_aft b1.src (N := 32) (by omega) (by omega)
      obtain ⟨y3, M3, g3, b3, f3⟩ := next_aft b2.src (N := 16777216) (by omega) (by omega)
      obtain ⟨v, M4, _, b4, f4⟩ := pickL_aft b3.src [.int .i64 y1, .int .i64 ((1 <<< y2 : Nat) : Int), .int .i64 ((y3 <<< 8 : Nat) : Int)] (n := 3) rfl rfl (by omega) (by omega)
      have hA := ((b1.trans b2).trans b3).trans b4
      have j1 := hA.keep _ _ (by omega) i1
      have hS := (i2.trans hA).set s1 (i := s0.b) i3 dead
      have hM := hS.trans (hS.src.more [⟨[.int .i64 v], true⟩, ⟨Is (k + 1) (upd s0.v k v), true⟩])
      refine ⟨_, ⟨?_, hM, ?_⟩, y1, y2, y3, v, M1, M2, M3, M4, g2, g3, f1, f2, f3, f4, j1, rfl⟩
      · show (M4.set s0.b dead ++ [_, _])[M4.length + 1]? = _
        rw [List.getElem?_append_right (by simp), List.length_set]
        simp
      · show h1.length ≤ M4.length + 1
        have := (i2.trans hA).len
        omega)
  obtain ⟨f1, f2, f3⟩ := hI n (Nat.le_refl _)
  have hlt : h.length < h1.length := hl1
  -- the third is perhaps the sum of the first two
  obtain ⟨y, H5, v5, E5, k5, l5, p5⟩ : ∃ (y : Nat) (H5 : List Blk) (v5 : Nat → Int), Aft h1 H5 h.length cv ∧ H5[(st n).b]? = some ⟨Is n v5, true⟩ ∧ h1.length ≤ H5.length ∧
      ((n ≤ 2 ∧ H5 = (st n).M) ∨ ∃ M, AC Try.prog 143 [pt h.length 0, .int .i64 ((3 : Nat) : Int)] (st n).M (.int .i64 y) M ∧ M[(st n).b]? = some ⟨Is n (st n).v, true⟩ ∧ 2 < n ∧ ((y ≠ 0 ∧ H5 = M) ∨ (y = 0 ∧ H5 = M.set (st n).b ⟨Is n (upd (st n).v 2 (bits .xor .i64 ((st n).v 0) ((st n).v 1))), true⟩))) := by
    by_cases h2 : n ≤ 2
    · exact ⟨0, _, _, f2, f1, f2.len, .inl ⟨h2, rfl⟩⟩
    · obtain ⟨y, M, _, b1, g1⟩ := next_aft f2.src (N := 3) (by omega) (by omega)
      have j1 := b1.keep _ _ (by omega) f1
      by_cases hy : y = 0
      · exact ⟨y, _, _, (f2.trans b1).set s1 f3 _, look_set (blt j1), ((f2.trans b1).set s1 f3 _).len, .inr ⟨M, g1, j1, by omega, .inr ⟨hy, rfl⟩⟩⟩
      · exact ⟨y, _, _, f2.trans b1, j1, (f2.trans b1).len, .inr ⟨M, g1, j1, by omega, .inl ⟨hy, rfl⟩⟩⟩
  -- the first is perhaps out of range
  obtain ⟨H6, v6, E6, k6, l6, p6⟩ : ∃ (H6 : List Blk) (v6 : Nat → Int), Aft h1 H6 h.length cv ∧ H6[(st n).b]? = some ⟨Is n v6, true⟩ ∧ h1.length ≤ H6.length ∧
      ((n = 0 ∧ H6 = H5) ∨ ∃ (z : Nat) (M : List Blk), AC Try.prog 143 [pt h.length 0, .int .i64 ((16 : Nat) : Int)] H5 (.int .i64 z) M ∧ M[(st n).b]? = some ⟨Is n v5, true⟩ ∧ 0 < n ∧
        ((z ≠ 0 ∧ H6 = M) ∨ (z = 0 ∧ ∃ (u : Int) (M2 : List Blk), AC Try.prog 142 [pt h.length 0, sl M.length 0 2 1] (M ++ [⟨[.int .i64 (-1), .int .i64 4294967296], true⟩]) (.int .i64 u) M2 ∧ M2[(st n).b]? = some ⟨Is n v5, true⟩ ∧ H6 = M2.set (st n).b ⟨Is n (upd v5 0 u), true⟩))) := by
    by_cases h2 : n = 0
    · exact ⟨_, _, E5, k5, l5, .inl ⟨h2, rfl⟩⟩
    · obtain ⟨z, M, _, b1, g1⟩ := next_aft E5.src (N := 16) (by omega) (by omega)
      have j1 := b1.keep _ _ (by omega) k5
      by_cases hz : z = 0
      · obtain ⟨u, M2, _, b2, g2⟩ := pickL_aft b1.src [.int .i64 (-1), .int .i64 4294967296] (n := 2) rfl rfl (by omega) (by omega)
        have j2 := b2.keep _ _ (by omega) j1
        have hS := ((E5.trans b1).trans b2).set s1 f3 ⟨Is n (upd v5 0 u), true⟩
        exact ⟨_, _, hS, look_set (blt j2), hS.len, .inr ⟨z, M, g1, j1, by omega, .inr ⟨hz, u, M2, g2, j2, rfl⟩⟩⟩
      · exact ⟨_, _, E5.trans b1, j1, (E5.trans b1).len, .inr ⟨z, M, g1, j1, by omega, .inl ⟨hz, rfl⟩⟩⟩
  refine ⟨v6, n, (st n).b, H6, by omega, ?_, k6, ?_⟩
  · exact E6.app h (Nat.le_refl _) e1
  clear a0 a1 a2 a3 A0 E5 E6 f2
  have hlen : h.length ≤ H6.length := by omega
  have hlen5 : h.length ≤ H5.length := by omega
  (refine AC_begin (fun _ _ => Try.call89 _ _) Try.func89 rfl Try.ntmps89 Try.results89 (fun hwf => ?_); simp only [List.length_cons, List.length_nil, Nat.reduceAdd, Nat.reduceSub, List.replicate, List.cons_append, List.nil_append])
  (repeat (first | ((first | (refine And.intro ?_ ?_; focus (first | exact plain_agg (by simp only [go_sem]) | exact plain_two (by first | exact plain_agg (by simp only [go_sem]) | rfl) rfl | rfl)) | ((first | with_reducible apply callB_i | with_reducible apply callK_intro | with_reducible apply callQ_i); (focus (first | assumption | ((first | with_reducible apply c1 | with_reducible apply d1 | with_reducible apply d2 | with_reducible apply d3) <;> (first | assumption | rfl | (simp (disch := omega) only [go_sem]; first | done | rfl) | omega | decide | (simp; done))))); (try (focus (refine WP.mk ?_ ?_; (focus ((repeat (first | exact trivial | (refine And.intro ?_ ?_; (focus first | exact plainV_wf rfl | (refine plainV_wf (plain_agg ?_); simp only [go_sem]; done) | (simp only [wfV, wf1, wfC, List.length_append, List.length_cons, List.length_nil]; omega))))))); (focus (first | rfl | (refine plain_agg ?_; simp only [go_sem]; done) | (refine plain_two ?_ ?_ <;> first | rfl | (refine plain_agg ?_; simp only [go_sem]; done)))))))) | refine WA_seq (WA_region ?_) | refine WA_region ?_ | refine WA_exit ?_); try simp (maxSteps := 1000000) (disch := first | omega | rfl | decide | (simp only [List.length_cons, List.length_nil, List.length_append, Bs_length, Is_length, Vs_length, Bl_length, Il_length] <;> omega)) only [go_sem, Nat.reduceAdd, Int.reduceAdd, Int.reduceSub, Int.reduceMul, Bool.not_true, Bool.not_false, yieldA_at 3 37, yieldA_at 3 54]) | refine WA_seq ?_ | refine WA_block ?_ | (refine WA_skip ?_; try simp only [go_sem]) | (refine WA_ret ?_; try simp only [go_sem]) | refine WA_ct rfl ?_ | refine WA_cf rfl ?_))
  refine WA_forH (fun k => [(4, sl (st k).b 0 k 1), (5, .int .i64 ((n - k : Nat))), (16, J), (17, J), (18, J), (19, J), (20, J), (21, J), (22, J), (23, J), (24, J), (25, J), (26, J), (27, J), (28, J), (29, J), (30, J), (31, J), (32, J), (33, J)]) (fun k => (st k).M) (n) ?_ ?_ ?_ <;> (try simp only [patT_cons, patT_nil, patL_cons, patL_nil, list_set_zero, list_set_succ, blk_set_zero, blk_set_succ])
  · have q0 : (st 0).M = h4 := by rw [e0]
    have q1 : (st 0).b = h1.length := by rw [e0]
    rw [q0, q1]
    have l4 : h.length ≤ h4.length := by have := blt hB; omega
    (refine Drop_slots (by first | assumption | exact Nat.le_refl _) ?_; focus ((try simp only [JL_same, JL_J, JL_nil, Int.reduceAdd, Nat.sub_sub, Int.natCast_add, Int.natCast_one, Int.natCast_zero, Int.cast_ofNat_Int, Nat.add_zero, Bool.false_eq_true, if_false, if_true]); (try exact JL_refl _)))
  · intro k hk
    obtain ⟨y1, y2, y3, v, M1, M2, M3, M4, g2, g3, f1', f2', f3', f4', j1, e⟩ := hRt k hk
    have q0 := (hI k (by omega)).2.1.len
    have q1 := (hI (k + 1) hk).2.1.len
    have q2 := (hI k (by omega)).1
    have q3 : h.length ≤ (st (k + 1)).M.length := by omega
    rw [e] at q3 ⊢
    clear q1
    have hs1 : 1 <<< y2 < 9223372036854775808 := by
      rw [Nat.one_shiftLeft]
      exact Nat.lt_of_lt_of_le (Nat.pow_lt_pow_right (n := 32) (by omega) g2) (by omega)
    have hs2 : y3 <<< 8 < 9223372036854775808 := by rw [Nat.shiftLeft_eq]; omega
    have hw1 := one_shl (show y2 ≤ 60 by omega)
    have hw2 := wrap_N hs2
    (repeat (first | ((first | (refine And.intro ?_ ?_; focus (first | exact plain_agg (by simp only [go_sem]) | exact plain_two (by first | exact plain_agg (by simp only [go_sem]) | rfl) rfl | rfl)) | ((first | with_reducible apply callB_i | with_reducible apply callK_intro | with_reducible apply callQ_i); (focus (first | assumption | ((first | with_reducible apply f1' | with_reducible apply f2' | with_reducible apply f3' | with_reducible apply f4') <;> (first | assumption | rfl | (simp (disch := omega) only [go_sem]; first | done | rfl) | omega | decide | (simp; done))))); (try (focus (refine WP.mk ?_ ?_; (focus ((repeat (first | exact trivial | (refine And.intro ?_ ?_; (focus first | exact plainV_wf rfl | (refine plainV_wf (plain_agg ?_); simp only [go_sem]; done) | (simp only [wfV, wf1, wfC, List.length_append, List.length_cons, List.length_nil]; omega))))))); (focus (first | rfl | (refine plain_agg ?_; simp only [go_sem]; done) | (refine plain_two ?_ ?_ <;> first | rfl | (refine plain_agg ?_; simp only [go_sem]; done)))))))) | refine WA_seq (WA_region ?_) | refine WA_region ?_ | refine WA_exit ?_); try simp (maxSteps := 1000000) (disch := first | omega | rfl | decide | (simp only [List.length_cons, List.length_nil, List.length_append, Bs_length, Is_length, Vs_length, Bl_length, Il_length] <;> omega)) only [go_sem, Nat.reduceAdd, Int.reduceAdd, Int.reduceSub, Int.reduceMul, Bool.not_true, Bool.not_false, decide_eq_true (show 0 < n - k by omega), hw1, hw2, look_old j1, set_app (blt j1), lit1I, sub1, Is_snoc2, yieldA_at 3 37, yieldA_at 3 54]) | (refine (WA_rb (id := 6) [3, 5, 8, 10, 11, 12, 13] (SubM.refl _) mixedOk ?_); simp only [List.size_toArray, List.length_cons, List.length_nil]; (repeat (first | ((first | (refine And.intro ?_ ?_; focus (first | exact plain_agg (by simp only [go_sem]) | exact plain_two (by first | exact plain_agg (by simp only [go_sem]) | rfl) rfl | rfl)) | ((first | with_reducible apply callB_i | with_reducible apply callK_intro | with_reducible apply callQ_i); (focus (first | assumption | ((first | with_reducible apply f1' | with_reducible apply f2' | with_reducible apply f3' | with_reducible apply f4') <;> (first | assumption | rfl | (simp (disch := omega) only [go_sem]; first | done | rfl) | omega | decide | (simp; done))))); (try (focus (refine WP.mk ?_ ?_; (focus ((repeat (first | exact trivial | (refine And.intro ?_ ?_; (focus first | exact plainV_wf rfl | (refine plainV_wf (plain_agg ?_); simp only [go_sem]; done) | (simp only [wfV, wf1, wfC, List.length_append, List.length_cons, List.length_nil]; omega))))))); (focus (first | rfl | (refine plain_agg ?_; simp only [go_sem]; done) | (refine plain_two ?_ ?_ <;> first | rfl | (refine plain_agg ?_; simp only [go_sem]; done)))))))) | refine RB_take false [0, 1, 2, 4, 7] 10 (by rfl) (by kernel_rfl) (by decide) (by decide +kernel) ?_ | refine RB_exec 3 _ (by rfl) (by decide +kernel) (by decide +kernel) ?_ | refine RB_exec 5 _ (by rfl) (by decide +kernel) (by decide +kernel) ?_ | refine RB_take false [6] 7 (by rfl) (by kernel_rfl) (by decide) (by decide +kernel) ?_ | refine RB_exec 8 _ (by rfl) (by decide +kernel) (by decide +kernel) ?_ | refine RB_take false [9] 5 (by rfl) (by kernel_rfl) (by decide) (by decide +kernel) ?_ | refine RB_exec 10 _ (by rfl) (by decide +kernel) (by decide +kernel) ?_ | refine RB_exec 11 _ (by rfl) (by decide +kernel) (by decide +kernel) ?_ | refine RB_exec 12 _ (by rfl) (by decide +kernel) (by decide +kernel) ?_ | refine RB_exec 13 _ (by rfl) (by decide +kernel) (by decide +kernel) ?_ | refine RB_take false [14] 0 (by rfl) (by kernel_rfl) (by decide) (by decide +kernel) ?_ | refine RB_done (by decide +kernel) ?_); try simp (maxSteps := 1000000) (disch := first | omega | rfl | decide | (simp only [List.length_cons, List.length_nil, List.length_append, Bs_length, Is_length, Vs_length, Bl_length, Il_length] <;> omega)) only [go_sem, Nat.reduceAdd, Int.reduceAdd, Int.reduceSub, Int.reduceMul, Bool.not_true, Bool.not_false, decide_eq_true (show 0 < n - k by omega), hw1, hw2, look_old j1, set_app (blt j1), lit1I, sub1, Is_snoc2, yieldA_at 3 37, yieldA_at 3 54])))) | refine WA_seq ?_ | refine WA_block ?_ | (refine WA_skip ?_; try simp only [go_sem]) | (refine WA_ret ?_; try simp only [go_sem]) | refine WA_ct rfl ?_ | refine WA_cf rfl ?_))
    all_goals (refine Drop_slots (by first | assumption | exact Nat.le_refl _) ?_; focus ((try simp only [JL_same, JL_J, JL_nil, Int.reduceAdd, Nat.sub_sub, Int.natCast_add, Int.natCast_one, Int.natCast_zero, Int.cast_ofNat_Int, Nat.add_zero, Bool.false_eq_true, if_false, if_true]); (try exact JL_refl _)))
  · (repeat (first | ((first | (refine And.intro ?_ ?_; focus (first | exact plain_agg (by simp only [go_sem]) | exact plain_two (by first | exact plain_agg (by simp only [go_sem]) | rfl) rfl | rfl)) | refine WA_seq (WA_region (id := 4) ?_) | refine WA_region (id := 4) ?_ | refine WA_seq (WA_region (id := 5) ?_) | refine WA_region (id := 5) ?_ | refine WA_exit ?_); try simp (maxSteps := 1000000) (disch := first | omega | rfl | decide | (simp only [List.length_cons, List.length_nil, List.length_append, Bs_length, Is_length, Vs_length, Bl_length, Il_length] <;> omega)) only [go_sem, Nat.reduceAdd, Int.reduceAdd, Int.reduceSub, Int.reduceMul, Bool.not_true, Bool.not_false, Nat.sub_self, yieldA_at 3 37, yieldA_at 3 54]) | (refine (WA_rb (id := 6) [3, 5, 8, 10, 11, 12, 13] (SubM.refl _) mixedOk ?_); simp only [List.size_toArray, List.length_cons, List.length_nil]; (repeat (first | ((first | (refine And.intro ?_ ?_; focus (first | exact plain_agg (by simp only [go_sem]) | exact plain_two (by first | exact plain_agg (by simp only [go_sem]) | rfl) rfl | rfl)) | refine RB_take false [0, 1, 2, 4, 7] 10 (by rfl) (by kernel_rfl) (by decide) (by decide +kernel) ?_ | refine RB_exec 3 _ (by rfl) (by decide +kernel) (by decide +kernel) ?_ | refine RB_exec 5 _ (by rfl) (by decide +kernel) (by decide +kernel) ?_ | refine RB_take false [6] 7 (by rfl) (by kernel_rfl) (by decide) (by decide +kernel) ?_ | refine RB_exec 8 _ (by rfl) (by decide +kernel) (by decide +kernel) ?_ | refine RB_take false [9] 5 (by rfl) (by kernel_rfl) (by decide) (by decide +kernel) ?_ | refine RB_exec 10 _ (by rfl) (by decide +kernel) (by decide +kernel) ?_ | refine RB_exec 11 _ (by rfl) (by decide +kernel) (by decide +kernel) ?_ | refine RB_exec 12 _ (by rfl) (by decide +kernel) (by decide +kernel) ?_ | refine RB_exec 13 _ (by rfl) (by decide +kernel) (by decide +kernel) ?_ | refine RB_take false [14] 0 (by rfl) (by kernel_rfl) (by decide) (by decide +kernel) ?_ | refine RB_done (by decide +kernel) ?_); try simp (maxSteps := 1000000) (disch := first | omega | rfl | decide | (simp only [List.length_cons, List.length_nil, List.length_append, Bs_length, Is_length, Vs_length, Bl_length, Il_length] <;> omega)) only [go_sem, Nat.reduceAdd, Int.reduceAdd, Int.reduceSub, Int.reduceMul, Bool.not_true, Bool.not_false, Nat.sub_self, yieldA_at 3 37, yieldA_at 3 54])))) | refine WA_seq ?_ | refine WA_block ?_ | (refine WA_skip ?_; try simp only [go_sem]) | (refine WA_ret ?_; try simp only [go_sem]) | refine WA_ct rfl ?_ | refine WA_cf rfl ?_))
    refine WA_mid2 [(34, J), (35, J), (36, J), (37, J), (38, J), (39, J), (40, J), (41, J), (42, J), (43, J), (44, J), (45, J), (46, J), (47, J), (48, J), (49, J), (50, J)] (H5) ?_ ?_ <;> (try simp only [patT_cons, patT_nil, patL_cons, patL_nil, list_set_zero, list_set_succ, blk_set_zero, blk_set_succ])
    · rcases p5 with ⟨hn2, rfl⟩ | ⟨M, g1, j1, hn2, ⟨hy, rfl⟩ | ⟨rfl, rfl⟩⟩
      · (repeat (first | ((first | (refine And.intro ?_ ?_; focus (first | exact plain_agg (by simp only [go_sem]) | exact plain_two (by first | exact plain_agg (by simp only [go_sem]) | rfl) rfl | rfl)) | refine WA_seq (WA_region ?_) | refine WA_region ?_ | refine WA_exit ?_); try simp (maxSteps := 1000000) (disch := first | omega | rfl | decide | (simp only [List.length_cons, List.length_nil, List.length_append, Bs_length, Is_length, Vs_length, Bl_length, Il_length] <;> omega)) only [go_sem, Nat.reduceAdd, Int.reduceAdd, Int.reduceSub, Int.reduceMul, Bool.not_true, Bool.not_false, show decide (2 < n) = false from decide_eq_false (by omega), yieldA_at 3 37, yieldA_at 3 54]) | refine WA_seq ?_ | refine WA_block ?_ | (refine WA_skip ?_; try simp only [go_sem]) | (refine WA_ret ?_; try simp only [go_sem]) | refine WA_ct rfl ?_ | refine WA_cf rfl ?_))
        (refine Drop_slots (by first | assumption | exact Nat.le_refl _) ?_; focus ((try simp only [JL_same, JL_J, JL_nil, Int.reduceAdd, Nat.sub_sub, Int.natCast_add, Int.natCast_one, Int.natCast_zero, Int.cast_ofNat_Int, Nat.add_zero, Bool.false_eq_true, if_false, if_true]); (try exact JL_refl _)))
      · (repeat (first | ((first | (refine And.intro ?_ ?_; focus (first | exact plain_agg (by simp only [go_sem]) | exact plain_two (by first | exact plain_agg (by simp only [go_sem]) | rfl) rfl | rfl)) | ((first | with_reducible apply callB_i | with_reducible apply callK_intro | with_reducible apply callQ_i); (focus (first | assumption | (with_reducible apply g1 <;> (first | assumption | rfl | (simp (disch := omega) only [go_sem]; first | done | rfl) | omega | decide | (simp; done))))); (try (focus (refine WP.mk ?_ ?_; (focus ((repeat (first | exact trivial | (refine And.intro ?_ ?_; (focus first | exact plainV_wf rfl | (refine plainV_wf (plain_agg ?_); simp only [go_sem]; done) | (simp only [wfV, wf1, wfC, List.length_append, List.length_cons, List.length_nil]; omega))))))); (focus (first | rfl | (refine plain_agg ?_; simp only [go_sem]; done) | (refine plain_two ?_ ?_ <;> first | rfl | (refine plain_agg ?_; simp only [go_sem]; done)))))))) | refine WA_seq (WA_region ?_) | refine WA_region ?_ | refine WA_exit ?_); try simp (maxSteps := 1000000) (disch := first | omega | rfl | decide | (simp only [List.length_cons, List.length_nil, List.length_append, Bs_length, Is_length, Vs_length, Bl_length, Il_length] <;> omega)) only [go_sem, Nat.reduceAdd, Int.reduceAdd, Int.reduceSub, Int.reduceMul, Bool.not_true, Bool.not_false, show decide (2 < n) = true from decide_eq_true hn2, show (((y : Nat) : Int) == 0) = false from by simpa using hy, yieldA_at 3 37, yieldA_at 3 54]) | refine WA_seq ?_ | refine WA_block ?_ | (refine WA_skip ?_; try simp only [go_sem]) | (refine WA_ret ?_; try simp only [go_sem]) | refine WA_ct rfl ?_ | refine WA_cf rfl ?_))
        (refine Drop_slots (by first | assumption | exact Nat.le_refl _) ?_; focus ((try simp only [JL_same, JL_J, JL_nil, Int.reduceAdd, Nat.sub_sub, Int.natCast_add, Int.natCast_one, Int.natCast_zero, Int.cast_ofNat_Int, Nat.add_zero, Bool.false_eq_true, if_false, if_true]); (try exact JL_refl _)))
      · have hlM := blt j1
        (repeat (first | ((first | (refine And.intro ?_ ?_; focus (first | exact plain_agg (by simp only [go_sem]) | exact plain_two (by first | exact plain_agg (by simp only [go_sem]) | rfl) rfl | rfl)) | ((first | with_reducible apply callB_i | with_reducible apply callK_intro | with_reducible apply callQ_i); (focus (first | assumption | (with_reducible apply g1 <;> (first | assumption | rfl | (simp (disch := omega) only [go_sem]; first | done | rfl) | omega | decide | (simp; done))))); (try (focus (refine WP.mk ?_ ?_; (focus ((repeat (first | exact trivial | (refine And.intro ?_ ?_; (focus first | exact plainV_wf rfl | (refine plainV_wf (plain_agg ?_); simp only [go_sem]; done) | (simp only [wfV, wf1, wfC, List.length_append, List.length_cons, List.length_nil]; omega))))))); (focus (first | rfl | (refine plain_agg ?_; simp only [go_sem]; done) | (refine plain_two ?_ ?_ <;> first | rfl | (refine plain_agg ?_; simp only [go_sem]; done)))))))) | refine WA_seq (WA_region ?_) | refine WA_region ?_ | refine WA_exit ?_); try simp (maxSteps := 1000000) (disch := first | omega | rfl | decide | (simp only [List.length_cons, List.length_nil, List.length_append, Bs_length, Is_length, Vs_length, Bl_length, Il_length] <;> omega)) only [go_sem, Nat.reduceAdd, Int.reduceAdd, Int.reduceSub, Int.reduceMul, Bool.not_true, Bool.not_false, show decide (2 < n) = true from decide_eq_true hn2, show (((0 : Nat) : Int) == 0) = true from rfl, j1, yieldA_at 3 37, yieldA_at 3 54]) | (refine (WA_rb (id := 8) [9] (SubM.refl _) mixedOk ?_); simp only [List.size_toArray, List.length_cons, List.length_nil]; (repeat (first | ((first | (refine And.intro ?_ ?_; focus (first | exact plain_agg (by simp only [go_sem]) | exact plain_two (by first | exact plain_agg (by simp only [go_sem]) | rfl) rfl | rfl)) | refine RB_take false [0, 1, 2, 4, 5] 5 (by rfl) (by kernel_rfl) (by decide) (by decide +kernel) ?_ | refine RB_take true [3, 6] 3 (by rfl) (by kernel_rfl) (by decide) (by decide +kernel) ?_ | refine RB_take false [7, 8] 1 (by rfl) (by kernel_rfl) (by decide) (by decide +kernel) ?_ | refine RB_exec 9 _ (by rfl) (by decide +kernel) (by decide +kernel) ?_ | refine RB_done (by decide +kernel) ?_); try simp (maxSteps := 1000000) (disch := first | omega | rfl | decide | (simp only [List.length_cons, List.length_nil, List.length_append, Bs_length, Is_length, Vs_length, Bl_length, Il_length] <;> omega)) only [go_sem, Nat.reduceAdd, Int.reduceAdd, Int.reduceSub, Int.reduceMul, Bool.not_true, Bool.not_false, show decide (2 < n) = true from decide_eq_true hn2, show (((0 : Nat) : Int) == 0) = true from rfl, j1, yieldA_at 3 37, yieldA_at 3 54])))) | refine WA_seq ?_ | refine WA_block ?_ | (refine WA_skip ?_; try simp only [go_sem]) | (refine WA_ret ?_; try simp only [go_sem]) | refine WA_ct rfl ?_ | refine WA_cf rfl ?_))
        (refine Drop_slots (by first | assumption | exact Nat.le_refl _) ?_; focus ((try simp only [JL_same, JL_J, JL_nil, Int.reduceAdd, Nat.sub_sub, Int.natCast_add, Int.natCast_one, Int.natCast_zero, Int.cast_ofNat_Int, Nat.add_zero, Bool.false_eq_true, if_false, if_true]); (try exact JL_refl _)))
    · (repeat (first | ((first | (refine And.intro ?_ ?_; focus (first | exact plain_agg (by simp only [go_sem]) | exact plain_two (by first | exact plain_agg (by simp only [go_sem]) | rfl) rfl | rfl)) | refine WA_seq (WA_region (id := 9999) ?_) | refine WA_region (id := 9999) ?_ | refine WA_exit ?_); try simp (maxSteps := 1000000) (disch := first | omega | rfl | decide | (simp only [List.length_cons, List.length_nil, List.length_append, Bs_length, Is_length, Vs_length, Bl_length, Il_length] <;> omega)) only [go_sem, Nat.reduceAdd, Int.reduceAdd, Int.reduceSub, Int.reduceMul, Bool.not_true, Bool.not_false, yieldA_at 3 37, yieldA_at 3 54]) | refine WA_seq ?_ | refine WA_block ?_ | (refine WA_skip ?_; try simp only [go_sem]) | (refine WA_ret ?_; try simp only [go_sem]) | refine WA_ct rfl ?_ | refine WA_cf rfl ?_))
      refine WA_mid2 [(51, J), (52, J), (53, J), (54, J), (55, J), (56, J), (57, J), (58, J), (59, J), (60, J), (61, J), (62, J), (63, J)] (H6) ?_ ?_ <;> (try simp only [patT_cons, patT_nil, patL_cons, patL_nil, list_set_zero, list_set_succ, blk_set_zero, blk_set_succ])
      · rcases p6 with ⟨hn2, rfl⟩ | ⟨z, M, g1, j1, hn2, ⟨hz, rfl⟩ | ⟨rfl, u, M2, g2, j2, rfl⟩⟩
        · (repeat (first | ((first | (refine And.intro ?_ ?_; focus (first | exact plain_agg (by simp only [go_sem]) | exact plain_two (by first | exact plain_agg (by simp only [go_sem]) | rfl) rfl | rfl)) | refine WA_seq (WA_region ?_) | refine WA_region ?_ | refine WA_exit ?_); try simp (maxSteps := 1000000) (disch := first | omega | rfl | decide | (simp only [List.length_cons, List.length_nil, List.length_append, Bs_length, Is_length, Vs_length, Bl_length, Il_length] <;> omega)) only [go_sem, Nat.reduceAdd, Int.reduceAdd, Int.reduceSub, Int.reduceMul, Bool.not_true, Bool.not_false, show decide (0 < n) = false from decide_eq_false (by omega), yieldA_at 3 37, yieldA_at 3 54]) | refine WA_seq ?_ | refine WA_block ?_ | (refine WA_skip ?_; try simp only [go_sem]) | (refine WA_ret ?_; try simp only [go_sem]) | refine WA_ct rfl ?_ | refine WA_cf rfl ?_))
          (refine Drop_slots (by first | assumption | exact Nat.le_refl _) ?_; focus ((try simp only [JL_same, JL_J, JL_nil, Int.reduceAdd, Nat.sub_sub, Int.natCast_add, Int.natCast_one, Int.natCast_zero, Int.cast_ofNat_Int, Nat.add_zero, Bool.false_eq_true, if_false, if_true]); (try exact JL_refl _)))
        · (repeat (first | ((first | (refine And.intro ?_ ?_; focus (first | exact plain_agg (by simp only [go_sem]) | exact plain_two (by first | exact plain_agg (by simp only [go_sem]) | rfl) rfl | rfl)) | ((first | with_reducible apply callB_i | with_reducible apply callK_intro | with_reducible apply callQ_i); (focus (first | assumption | (with_reducible apply g1 <;> (first | assumption | rfl | (simp (disch := omega) only [go_sem]; first | done | rfl) | omega | decide | (simp; done))))); (try (focus (refine WP.mk ?_ ?_; (focus ((repeat (first | exact trivial | (refine And.intro ?_ ?_; (focus first | exact plainV_wf rfl | (refine plainV_wf (plain_agg ?_); simp only [go_sem]; done) | (simp only [wfV, wf1, wfC, List.length_append, List.length_cons, List.length_nil]; omega))))))); (focus (first | rfl | (refine plain_agg ?_; simp only [go_sem]; done) | (refine plain_two ?_ ?_ <;> first | rfl | (refine plain_agg ?_; simp only [go_sem]; done)))))))) | refine WA_seq (WA_region ?_) | refine WA_region ?_ | refine WA_exit ?_); try simp (maxSteps := 1000000) (disch := first | omega | rfl | decide | (simp only [List.length_cons, List.length_nil, List.length_append, Bs_length, Is_length, Vs_length, Bl_length, Il_length] <;> omega)) only [go_sem, Nat.reduceAdd, Int.reduceAdd, Int.reduceSub, Int.reduceMul, Bool.not_true, Bool.not_false, show decide (0 < n) = true from decide_eq_true hn2, show (((z : Nat) : Int) == 0) = false from by simpa using hz, yieldA_at 3 37, yieldA_at 3 54]) | refine WA_seq ?_ | refine WA_block ?_ | (refine WA_skip ?_; try simp only [go_sem]) | (refine WA_ret ?_; try simp only [go_sem]) | refine WA_ct rfl ?_ | refine WA_cf rfl ?_))
          (refine Drop_slots (by first | assumption | exact Nat.le_refl _) ?_; focus ((try simp only [JL_same, JL_J, JL_nil, Int.reduceAdd, Nat.sub_sub, Int.natCast_add, Int.natCast_one, Int.natCast_zero, Int.cast_ofNat_Int, Nat.add_zero, Bool.false_eq_true, if_false, if_true]); (try exact JL_refl _)))
        · have hlM := blt j1
          have hlM2 := blt j2
          (repeat (first | ((first | (refine And.intro ?_ ?_; focus (first | exact plain_agg (by simp only [go_sem]) | exact plain_two (by first | exact plain_agg (by simp only [go_sem]) | rfl) rfl | rfl)) | ((first | with_reducible apply callB_i | with_reducible apply callK_intro | with_reducible apply callQ_i); (focus (first | assumption | ((first | with_reducible apply g1 | with_reducible apply g2) <;> (first | assumption | rfl | (simp (disch := omega) only [go_sem]; first | done | rfl) | omega | decide | (simp; done))))); (try (focus (refine WP.mk ?_ ?_; (focus ((repeat (first | exact trivial | (refine And.intro ?_ ?_; (focus first | exact plainV_wf rfl | (refine plainV_wf (plain_agg ?_); simp only [go_sem]; done) | (simp only [wfV, wf1, wfC, List.length_append, List.length_cons, List.length_nil]; omega))))))); (focus (first | rfl | (refine plain_agg ?_; simp only [go_sem]; done) | (refine plain_two ?_ ?_ <;> first | rfl | (refine plain_agg ?_; simp only [go_sem]; done)))))))) | refine WA_seq (WA_region ?_) | refine WA_region ?_ | refine WA_exit ?_); try simp (maxSteps := 1000000) (disch := first | omega | rfl | decide | (simp only [List.length_cons, List.length_nil, List.length_append, Bs_length, Is_length, Vs_length, Bl_length, Il_length] <;> omega)) only [go_sem, Nat.reduceAdd, Int.reduceAdd, Int.reduceSub, Int.reduceMul, Bool.not_true, Bool.not_false, show decide (0 < n) = true from decide_eq_true hn2, show (((0 : Nat) : Int) == 0) = true from rfl, j1, j2, yieldA_at 3 37, yieldA_at 3 54]) | refine WA_seq ?_ | refine WA_block ?_ | (refine WA_skip ?_; try simp only [go_sem]) | (refine WA_ret ?_; try simp only [go_sem]) | refine WA_ct rfl ?_ | refine WA_cf rfl ?_))
          (refine Drop_slots (by first | assumption | exact Nat.le_refl _) ?_; focus ((try simp only [JL_same, JL_J, JL_nil, Int.reduceAdd, Nat.sub_sub, Int.natCast_add, Int.natCast_one, Int.natCast_zero, Int.cast_ofNat_Int, Nat.add_zero, Bool.false_eq_true, if_false, if_true]); (try exact JL_refl _)))
      · (repeat (first | ((first | (refine And.intro ?_ ?_; focus (first | exact plain_agg (by simp only [go_sem]) | exact plain_two (by first | exact plain_agg (by simp only [go_sem]) | rfl) rfl | rfl)) | refine WA_seq (WA_region ?_) | refine WA_region ?_ | refine WA_exit ?_); try simp (maxSteps := 1000000) (disch := first | omega | rfl | decide | (simp only [List.length_cons, List.length_nil, List.length_append, Bs_length, Is_length, Vs_length, Bl_length, Il_length] <;> omega)) only [go_sem, Nat.reduceAdd, Int.reduceAdd, Int.reduceSub, Int.reduceMul, Bool.not_true, Bool.not_false, yieldA_at 3 37, yieldA_at 3 54]) | refine WA_seq ?_ | refine WA_block ?_ | (refine WA_skip ?_; try simp only [go_sem]) | (refine WA_ret ?_; try simp only [go_sem]) | refine WA_ct rfl ?_ | refine WA_cf rfl ?_))
        refine ret_full (by first | exact .inr rfl | exact .inl rfl) hlen ?_
        simp (maxSteps := 1000000) (disch := first | omega | rfl | decide | (simp only [List.length_cons, List.length_nil, List.length_append, Bs_length, Is_length, Vs_length, Bl_length, Il_length] <;> omega)) only [go_sem, Nat.reduceAdd, Int.reduceAdd, Int.reduceSub, Int.reduceMul, Bool.not_true, Bool.not_false]
        try rfl

end Go.Proofs.Ytkgiocoiojdgfaa
/- Cycles of places: their lengths sum to 16. Plain. -/
namespace Go.Proofs.Ytkgiocoiojdgfaa
set_option linter.unusedSimpArgs false
set_option linter.unusedVariables false
set_option maxRecDepth 20000
set_option maxHeartbeats 1000000
open Go.Abs

/-- The k-th place of a walk, and what is met then. -/
def cyI (p : Nat → UInt8) (i : Nat) : Nat → Nat
  | 0 => i
  | k + 1 => (p (cyI p i k)).toNat
def cyD (p : Nat → UInt8) (d : Nat → Bool) (i : Nat) : Nat → (Nat → Bool)
  | 0 => d
  | k + 1 => upd (cyD p d i k) (cyI p i k) true
/-- How long the walk is. -/
def cyN (p : Nat → UInt8) (d : Nat → Bool) (i : Nat) : Nat := skip (fun k => !(cyD p d i k (cyI p i k))) 17 0
def cyL (p : Nat → UInt8) (i k : Nat) : List Int := (List.range k).map fun j => ((cyI p i j : Nat) : Int)
section
variable {p : Nat → UInt8} (hp : ∀ i, i < 16 → (p i).toNat < 16)
include hp
end
/-- What is met, and the cycles, after the first s starts. -/
def cyR (p : Nat → UInt8) : Nat → (Nat → Bool) × List (List Int)
  | 0 => (fun _ => false, [])
  | s + 1 => (cyD p (cyR p s).1 s (cyN p (cyR p s).1 s), if cyN p (cyR p s).1 s = 0 then (cyR p s).2 else (cyR p s).2 ++ [cyL p s (cyN p (cyR p s).1 s)])
/-- The number of cycles after s starts, and the j-th cycle. -/
def cyC (p : Nat → UInt8) (s : Nat) : Nat := (cyR p s).2.length
def cyRow (p : Nat → UInt8) (j : Nat) : List Int := (cyR p 16).2.getD j []
section
variable {p : Nat → UInt8} (hp : ∀ i, i < 16 → (p i).toNat < 16)
include hp
end
end Go.Proofs.Ytkgiocoiojdgfaa
/- What FnPlaces needs: cycles told with memory opaque, rows compared. -/
namespace Go.Proofs.Ytkgiocoiojdgfaa
set_option linter.unusedSimpArgs false
set_option linter.unusedVariables false
set_option maxRecDepth 20000
set_option maxHeartbeats 1000000
open Go.Abs

attribute [local irreducible] cyC cyRow
/-- The cycles of places, as returned. -/
inductive CyV (p : Nat → UInt8) (h : List Blk) : Value → Prop
  | no (hp : plOk p = false) : CyV p h (.slice none 0 0)
  | ok (hp : plOk p = true) {b : Nat} {g : Nat → Nat} {r r' : Bool} (hb : h[b]? = some ⟨Vs (cyC p 16) fun j => sl (g j) 0 (cyRow p j).length 1, r⟩) (hr : ∀ j, j < cyC p 16 → h[g j]? = some ⟨Il (cyRow p j), r'⟩) : CyV p h (sl b 0 (cyC p 16) 1)
theorem CyV.app {p : Nat → UInt8} {h : List Blk} {v : Value} (c : CyV p h v) (L : List Blk) : CyV p (h ++ L) v := by
  cases c with
  | no hp => exact .no hp
  | ok hp hb hr => exact .ok hp (look_old hb L) fun j hj => look_old (hr j hj) L
theorem CyV.ro {p : Nat → UInt8} {h : List Blk} {v : Value} (c : CyV p h v) : CyV p (ro h) v := by
  cases c with
  | no hp => exact .no hp
  | ok hp hb hr => exact .ok hp (ro_of hb) fun j hj => ro_of (hr j hj)
theorem WA_wf {P : Program} {n0 : Nat} {c : Code} {Q : Exit → AS → Prop} {t : List Value} {H : List Blk} (k : WfH H → WA P n0 c Q ⟨t, H⟩) : WA P n0 c Q ⟨t, H⟩ := fun E a w hn hs => k hs.mem.wf E a w hn hs
/-- A value that knows the first N blocks alone. -/
def OldV (N : Nat) (v : Value) : Prop := ∀ (r : List Nat) (n' : Nat), N ≤ n' → v = renV N r v ∧ wfV n' v
theorem JR_old {N n' : Nat} {r : List Nat} {a : Value} {l l' : List Value} (ho : OldV N a) (hn : N ≤ n') (h : JR N r n' l l') : JR N r n' (a :: l) (a :: l') := ⟨.inr (ho r n' hn), h⟩
theorem OldV_plain {N : Nat} {v : Value} (h : plainV v = true) : OldV N v := fun _ _ _ => ⟨(renV_plain h).symm, plainV_wf h⟩
theorem OldV_sl {N b o n z : Nat} (h : b < N) : OldV N (sl b o n z) := fun r n' hn => by
  refine ⟨?_, show b < n' by omega⟩
  show sl b o n z = Value.slice (some (renA N r ⟨b, o, none⟩)) n z
  unfold renA
  rw [rhoF_old h]
theorem Cv.old {h : List Blk} {cv : Value} {N : Nat} (c : Cv h cv) (hN : h.length ≤ N) : OldV N cv := by
  cases c with
  | nil => exact OldV_plain rfl
  | sl hb hn => exact OldV_sl (Nat.lt_of_lt_of_le (blt hb) hN)
/-- What stands behind is given up. -/
theorem Drop_gc0 {m : Nat} {t t' : List Value} {H L : List Blk} (hm : m ≤ H.length) (hwf : WfH H) (hj : JR H.length [] H.length t t') : Drop m ⟨t, H ++ L⟩ ⟨t', H⟩ := by
  have := Drop_gc (m := m) [] (L := L) (L' := []) hm hwf (by decide) trivial (by rw [List.append_nil]; exact hj)
  rwa [List.append_nil] at this
theorem Bs_of {n : Nat} {f g : Nat → UInt8} (h : ∀ i, i < n → f i = g i) : eqB n f g = true := eqB_iff.2 h
theorem app_tr {h H K : List Blk} (e : ∃ A, H = h ++ A) (e2 : ∃ A, K = H ++ A) : ∃ A, K = h ++ A := by
  obtain ⟨A, rfl⟩ := e
  obtain ⟨B, rfl⟩ := e2
  exact ⟨A ++ B, List.append_assoc ..⟩
end Go.Proofs.Ytkgiocoiojdgfaa
/- Determinants of all products; the rank of a matrix of bits is 32 where the determinant is not 0. Plain. -/
namespace Go.Proofs.Ytkgiocoiojdgfaa
set_option linter.unusedSimpArgs false
set_option linter.unusedVariables false
set_option maxRecDepth 20000
set_option maxHeartbeats 1000000
open Go.Abs

section
variable {m : Nat} (h0 : 256 ≤ m) (h1 : m < 512)
include h0 h1
theorem elN_back {a b y : Nat → UInt8} {k : Nat} (hk : k < 4) : ∀ r, r ≤ 4 → (∀ i, i < 4 → D m (elN m k a b r).1 y i = 0) → ∀ i, i < 4 → D m a y i = 0
  | 0, _, h => h
  | r + 1, hr, h => by
    by_cases hrk : r = k
    · subst hrk; rw [elN_same] at h; exact elN_back hk r (by omega) h
    · rw [elN_other hrk] at h
      refine elN_back (b := b) hk r (by omega) fun i hi => ?_
      have hh : ∀ i, i < 4 → (if i = r then D m (elN m k a b r).1 y r ^^^ tm m ((elN m k a b r).1 (r * 4 + k)) (D m (elN m k a b r).1 y k) else D m (elN m k a b r).1 y i) = 0 := fun i hi => by
        rw [← D_elm h0 h1]; exact h i hi
      have hkz : D m (elN m k a b r).1 y k = 0 := by have := hh k hk; rwa [if_neg (by omega)] at this
      have hi2 := hh i hi
      by_cases e : i = r
      · rw [if_pos e, hkz, tm_zeroR, UInt8.xor_zero] at hi2
        rw [e]; exact hi2
      · rwa [if_neg e] at hi2
theorem stepR_back (hf : fieldB m = true) {k : Nat} {s : RS} {y : Nat → UInt8} (hk : k < 4) (hp : piv s.a k < 4) (h : ∀ i, i < 4 → D m (stepR m k s).a y i = 0) : ∀ i, i < 4 → D m s.a y i = 0 := by
  have hw : s.a (piv s.a k * 4 + k) ≠ 0 := by simpa using piv_end hk hp
  have w : swp s.a (piv s.a k) k (k * 4 + k) = s.a (piv s.a k * 4 + k) := by rw [swp_at s.a hk, if_pos rfl]
  have h2 := elN_back h0 h1 hk 4 (Nat.le_refl _) h
  have h3 : ∀ i, i < 4 → D m (swp s.a (piv s.a k) k) y i = 0 := fun i hi => by
    have := h2 i hi
    rw [D_scl h0 h1] at this
    by_cases e : i = k
    · rw [if_pos e] at this
      rcases tm_nz h0 h1 hf this with h4 | h4
      · rw [e]; exact h4
      · rw [w] at h4
        have h5 := tm_inv h0 h1 hf hw
        rw [h4, tm_zeroR] at h5
        exact absurd h5 (by decide)
    · rwa [if_neg e] at this
  intro i hi
  by_cases e : i = piv s.a k
  · have := h3 k hk
    rw [D_swp, if_pos rfl] at this
    rw [e]; exact this
  · by_cases e2 : i = k
    · have := h3 (piv s.a k) hp
      rw [D_swp] at this
      by_cases e3 : piv s.a k = k
      · rw [if_pos e3, e3] at this; rw [e2]; exact this
      · rw [if_neg e3, if_pos rfl] at this; rw [e2]; exact this
    · have := h3 i hi
      rwa [D_swp, if_neg e2, if_neg e] at this
theorem rs_back (hf : fieldB m = true) (a : Nat → UInt8) {y : Nat → UInt8} : ∀ k, k ≤ 4 → sing m a k = false → (∀ i, i < 4 → D m (rs m a k).a y i = 0) → ∀ i, i < 4 → D m a y i = 0
  | 0, _, _, h => h
  | k + 1, hk, hs, h => by
    have hp := sing_piv hs k (by omega)
    have hle := piv_le (rs m a k).a (show k < 4 by omega)
    rw [sing, Bool.or_eq_false_iff] at hs
    exact rs_back hf a k (by omega) hs.1 (stepR_back h0 h1 hf (by omega) (by omega) h)
/-- Something but 0 becomes 0, where the determinant is 0. -/
theorem ker_sing (hf : fieldB m = true) {a : Nat → UInt8} (hd : detF m a = 0) : ∃ y : Nat → UInt8, (∀ i, i < 4 → D m a y i = 0) ∧ ∃ i, i < 4 ∧ y i ≠ 0 := by
  cases hs : sing m a 4 with
  | false =>
    have e : detF m a = (rs m a 4).d := by unfold detF; rw [hs]; rfl
    have := LD_rs h0 h1 hf a unitF 4 (Nat.le_refl _) hs
    rw [← e, hd, tm_zero, LD_unit h0 h1] at this
    exact absurd this (by decide)
  | true =>
    obtain ⟨k, hk, h2, h3⟩ := sing_at hs
    have hU := rs_U h0 h1 hf a k (by omega) h2
    have hz : ∀ i, k ≤ i → i < 4 → (rs m a k).a (i * 4 + k) = 0 := fun i hi hi4 => by
      have hc : piv (rs m a k).a k = k + pivC (rs m a k).a k := rfl
      have := (piv_go (a := (rs m a k).a) (k := k) (r := i - k) (by omega)).2
      rw [show k + (i - k) = i by omega] at this
      simpa using this
    refine ⟨fun t => if t < k then (rs m a k).a (t * 4 + k) else if t = k then 1 else 0, rs_back h0 h1 hf a k (by omega) h2 ?_, k, hk, by
      show (if k < k then (rs m a k).a (k * 4 + k) else if k = k then (1 : UInt8) else 0) ≠ 0
      rw [if_neg (Nat.lt_irrefl k), if_pos rfl]; decide⟩
    generalize (rs m a k).a = A at hU hz
    intro i hi
    show 0 ^^^ tm m (A (i * 4 + 0)) _ ^^^ tm m (A (i * 4 + 1)) _ ^^^ tm m (A (i * 4 + 2)) _ ^^^ tm m (A (i * 4 + 3)) _ = 0
    have hU0 := fun (h : 0 < k) => hU i hi 0 h
    have hU1 := fun (h : 1 < k) => hU i hi 1 h
    have hU2 := fun (h : 2 < k) => hU i hi 2 h
    have hzi := fun (h : k ≤ i) => hz i h hi
    clear hU hz
    rcases c4 hk with rfl | rfl | rfl | rfl <;> rcases c4 hi with rfl | rfl | rfl | rfl <;>
      simp_all [tm_zeroR, tm_oneR h0 h1, tm_one h0 h1, tm_zero, UInt8.xor_self, UInt8.xor_zero, UInt8.zero_xor]
end

/-! ### Columns as numbers -/
def vecN (n : Nat) : Nat → UInt8 := fun t => UInt8.ofNat (n / 256 ^ t)
def enc (y : Nat → UInt8) : Nat := (y 0).toNat + 256 * (y 1).toNat + 65536 * (y 2).toNat + 16777216 * (y 3).toNat
theorem enc_lt (y : Nat → UInt8) : enc y < 4294967296 := by
  have := u8_lt (y 0); have := u8_lt (y 1); have := u8_lt (y 2); have := u8_lt (y 3)
  unfold enc; omega
theorem vec_at (n t : Nat) : (vecN n t).toNat = n / 256 ^ t % 256 := by unfold vecN; rw [UInt8.toNat_ofNat']
theorem vec_enc (y : Nat → UInt8) {t : Nat} (ht : t < 4) : vecN (enc y) t = y t := by
  rw [← UInt8.toNat_inj, vec_at]
  have := u8_lt (y 0); have := u8_lt (y 1); have := u8_lt (y 2); have := u8_lt (y 3)
  unfold enc
  rcases c4 ht with rfl | rfl | rfl | rfl <;> simp only [Nat.reducePow] <;> omega
theorem enc_vec {n : Nat} (hn : n < 4294967296) : enc (vecN n) = n := by
  unfold enc
  rw [vec_at, vec_at, vec_at, vec_at]
  simp only [Nat.reducePow]
  omega
theorem enc_cong {y z : Nat → UInt8} (h : ∀ t, t < 4 → y t = z t) : enc y = enc z := by
  unfold enc; rw [h 0 (by omega), h 1 (by omega), h 2 (by omega), h 3 (by omega)]
section
variable {m : Nat} (h0 : 256 ≤ m) (h1 : m < 512)
include h0 h1
theorem D_surj (hf : fieldB m = true) {b : Nat → UInt8} (hd : detF m b ≠ 0) (z : Nat → UInt8) : ∃ y : Nat → UInt8, ∀ i, i < 4 → D m b y i = z i := by
  obtain ⟨n, hn, e⟩ := inj_surj 4294967296 (fun n => enc (D m b (vecN n))) (fun n _ => enc_lt _) (fun n n' hn hn' e => by
    have key : ∀ i, i < 4 → D m b (vecN n) i = D m b (vecN n') i := fun i hi => by
      rw [← vec_enc (D m b (vecN n)) hi, ← vec_enc (D m b (vecN n')) hi]
      exact congrArg (fun q => vecN q i) e
    have key2 : ∀ i, i < 4 → vecN n i = vecN n' i := fun i hi => by
      rw [← backF_D h0 h1 hf hd (vecN n) hi, ← backF_D h0 h1 hf hd (vecN n') hi]
      exact D_cong key
    rw [← enc_vec hn, ← enc_vec hn', enc_cong key2]) (enc z) (enc_lt z)
  refine ⟨vecN n, fun i hi => ?_⟩
  rw [← vec_enc (D m b (vecN n)) hi, ← vec_enc z hi]
  exact congrArg (fun q => vecN q i) e
/-- The determinant of a product is the product. -/
theorem det_mul (hf : fieldB m = true) (a b : Nat → UInt8) : detF m (mmF m a b) = tm m (detF m a) (detF m b) := by
  by_cases ha : detF m a = 0
  · rw [ha, tm_zero]
    by_cases hc : detF m (mmF m a b) = 0
    · exact hc
    · exfalso
      by_cases hb : detF m b = 0
      · obtain ⟨z, hz, i, hi, hne⟩ := ker_sing h0 h1 hf hb
        refine hne (ker_ns h0 h1 hf hc (fun j hj => ?_) hi)
        rw [D_mul h0 h1, D_cong (z := fun _ => 0) hz, D_zeroY]
      · obtain ⟨y, hy, i, hi, hne⟩ := ker_sing h0 h1 hf ha
        obtain ⟨z, hz⟩ := D_surj h0 h1 hf hb y
        have hz0 : ∀ j, j < 4 → z j = 0 := fun j hj => ker_ns h0 h1 hf hc (fun q hq => by rw [D_mul h0 h1, D_cong hz, hy q hq]) hj
        refine hne ?_
        rw [← hz i hi, D_cong (z := fun _ => 0) hz0, D_zeroY]
  · exact det_mul1 h0 h1 hf b ha
end

/-! ### Parities -/
/-- Whether an odd number of the first n is true. -/
def par (f : Nat → Bool) : Nat → Bool
  | 0 => false
  | n + 1 => par f n ^^ f n
theorem par_cong {f g : Nat → Bool} : ∀ {n : Nat}, (∀ i, i < n → f i = g i) → par f n = par g n
  | 0, _ => rfl
  | n + 1, h => by unfold par; rw [par_cong fun i hi => h i (by omega), h n (by omega)]
theorem par_xor (f g : Nat → Bool) : ∀ n, par (fun i => f i ^^ g i) n = (par f n ^^ par g n)
  | 0 => rfl
  | n + 1 => by
    show (par (fun i => f i ^^ g i) n ^^ (f n ^^ g n)) = ((par f n ^^ f n) ^^ (par g n ^^ g n))
    rw [par_xor f g n]
    cases par f n <;> cases par g n <;> cases f n <;> cases g n <;> rfl
theorem par_false : ∀ n, par (fun _ => false) n = false
  | 0 => rfl
  | n + 1 => by unfold par; rw [par_false n]; rfl
theorem par_cons (f : Nat → Bool) : ∀ n, par f (n + 1) = (f 0 ^^ par (fun i => f (i + 1)) n)
  | 0 => by show (false ^^ f 0) = (f 0 ^^ false); cases f 0 <;> rfl
  | n + 1 => by
    show (par f (n + 1) ^^ f (n + 1)) = (f 0 ^^ (par (fun i => f (i + 1)) n ^^ f (n + 1)))
    rw [par_cons f n]
    cases f 0 <;> cases par (fun i => f (i + 1)) n <;> cases f (n + 1) <;> rfl
theorem par_one {f : Nat → Bool} {k : Nat} : ∀ {n : Nat}, k < n → (∀ i, i < n → i ≠ k → f i = false) → par f n = f k
  | 0, h, _ => absurd h (Nat.not_lt_zero k)
  | n + 1, h, hf => by
    unfold par
    by_cases e : k = n
    · subst e
      rw [par_cong (g := fun _ => false) fun i hi => hf i (by omega) (by omega), par_false]
      cases f k <;> rfl
    · rw [par_one (k := k) (by omega) fun i hi hne => hf i (by omega) hne, hf n (by omega) (by omega)]
      cases f k <;> rfl
theorem par_app (f : Nat → Bool) (a : Nat) : ∀ b, par f (a + b) = (par f a ^^ par (fun i => f (a + i)) b)
  | 0 => by show par f a = (par f a ^^ false); cases par f a <;> rfl
  | b + 1 => by
    show (par f (a + b) ^^ f (a + b)) = (par f a ^^ (par (fun i => f (a + i)) b ^^ f (a + b)))
    rw [par_app f a b]
    cases par f a <;> cases par (fun i => f (a + i)) b <;> cases f (a + b) <;> rfl
/-- The parity of what two numbers have both. -/
def dotp (r Y : Nat) : Bool := par (fun i => r.testBit i && Y.testBit i) 32
theorem dotp_xor (r s Y : Nat) : dotp (r ^^^ s) Y = (dotp r Y ^^ dotp s Y) := by
  unfold dotp
  rw [← par_xor]
  refine par_cong fun i _ => ?_
  rw [Nat.testBit_xor]
  cases r.testBit i <;> cases s.testBit i <;> cases Y.testBit i <;> rfl
theorem dotp_zero (Y : Nat) : dotp 0 Y = false := by
  unfold dotp
  rw [par_cong (g := fun _ => false) fun i _ => by rw [Nat.zero_testBit]; rfl, par_false]
theorem dotp_span {Y : Nat} : ∀ {l : List Nat} {v : Nat}, (∀ x, x ∈ l → dotp x Y = false) → Spn l v → dotp v Y = false
  | [], v, _, h => by rw [show v = 0 from h]; exact dotp_zero Y
  | x :: l, v, hl, h => by
    have hl' : ∀ y, y ∈ l → dotp y Y = false := fun y hy => hl y (List.mem_cons_of_mem _ hy)
    rcases h with h | h
    · exact dotp_span hl' h
    · have := dotp_span hl' h
      rw [dotp_xor, hl x (List.mem_cons_self ..)] at this
      cases hd : dotp v Y with
      | false => rfl
      | true => rw [hd] at this; cases this
theorem dotp_sel (Y : Nat) : ∀ (l : List Nat) (M : Nat), dotp (sel l M) Y = par (fun q => M.testBit q && dotp (l.getD q 0) Y) l.length
  | [], M => dotp_zero Y
  | x :: l, M => by
    rw [List.length_cons, par_cons]
    unfold sel
    rw [dotp_xor, dotp_sel Y l (M / 2), Nat.testBit_zero]
    congr 1
    · by_cases h : M % 2 = 1
      · rw [if_pos h, decide_eq_true h]; rfl
      · rw [if_neg h, decide_eq_false h, dotp_zero]; rfl
    · refine par_cong fun i _ => ?_
      rw [Nat.testBit_succ]; rfl
theorem Ind_of_sel : ∀ {l : List Nat}, (∀ M, M < 2 ^ l.length → sel l M = 0 → M = 0) → Ind l
  | [], _ => trivial
  | x :: l, h => by
    refine ⟨fun hs => ?_, Ind_of_sel fun M hM e => ?_⟩
    · obtain ⟨M, hM, e⟩ := span_sel hs
      have := h (2 * M + 1) (by rw [List.length_cons, Nat.pow_succ]; omega) (by
        unfold sel; rw [if_pos (by omega), show (2 * M + 1) / 2 = M by omega, e, Nat.xor_self])
      omega
    · have := h (2 * M) (by rw [List.length_cons, Nat.pow_succ]; omega) (by
        unfold sel; rw [if_neg (by omega), show 2 * M / 2 = M by omega, e]; rfl)
      omega

/-! ### Bits of what a matrix makes of a column -/
theorem mulP_par (m a b t : Nat) : ∀ k, (mulP m a b k).testBit t = par (fun i => b.testBit i && (dblN m a i).testBit t) k
  | 0 => Nat.zero_testBit t
  | k + 1 => by
    unfold par
    cases h : b.testBit k
    · rw [mulP_f h, mulP_par m a b t k, Bool.false_and, Bool.xor_false]
    · rw [mulP_t h, Nat.testBit_xor, mulP_par m a b t k, Bool.true_and]
theorem two_bit (k i : Nat) : (2 ^ k).testBit i = decide (k = i) := Nat.testBit_two_pow
section
variable {m : Nat} (h0 : 256 ≤ m) (h1 : m < 512)
include h0 h1
omit h0 h1 in
theorem mulP_two {a : Nat} {b : Nat} (hb : b < 8) : mulP m a (2 ^ b) 8 = dblN m a b := by
  refine Nat.eq_of_testBit_eq fun t => ?_
  rw [mulP_par, par_one (k := b) hb (fun i _ hne => by rw [two_bit, decide_eq_false (Ne.symm hne), Bool.false_and]), two_bit, decide_eq_true rfl, Bool.true_and]
theorem tm_par (x y : UInt8) (t : Nat) : (tm m x y).toNat.testBit t = par (fun b => y.toNat.testBit b && (tm m x (UInt8.ofNat (2 ^ b))).toNat.testBit t) 8 := by
  rw [tm_nat h0 h1]
  unfold mulN
  rw [mulP_par]
  refine par_cong fun b hb => ?_
  have h2 : 2 ^ b < 256 := Nat.pow_lt_pow_right (n := 8) (by omega) hb
  rw [tm_nat h0 h1]
  unfold mulN
  rw [u8_ofNat_toNat h2, mulP_two hb]
omit h0 h1 in
theorem enc_bit (y : Nat → UInt8) {j b : Nat} (hj : j < 4) (hb : b < 8) : (enc y).testBit (8 * j + b) = (y j).toNat.testBit b := by
  rw [← vec_enc y hj, vec_at, show (256 : Nat) ^ j = 2 ^ (8 * j) by rw [show (256 : Nat) = 2 ^ 8 from rfl, ← Nat.pow_mul], show (256 : Nat) = 2 ^ 8 from rfl, Nat.testBit_mod_two_pow, Nat.testBit_div_two_pow, decide_eq_true hb, Bool.true_and]
  rw [Nat.add_comm]
theorem row_dot (a y : Nat → UInt8) {i t : Nat} (hi : i < 4) (ht : t < 8) : dotp (orP m a (8 * i + t) 32) (enc y) = (D m a y i).toNat.testBit t := by
  have part : ∀ j, j < 4 → par (fun b => (orP m a (8 * i + t) 32).testBit (8 * j + b) && (enc y).testBit (8 * j + b)) 8 = (tm m (a (i * 4 + j)) (y j)).toNat.testBit t := fun j hj => by
    rw [tm_par h0 h1]
    refine par_cong fun b hb => ?_
    rw [enc_bit y hj hb, orP_bit, decide_eq_true (show 8 * j + b < 32 by omega), Bool.true_and, Bool.and_comm]
    congr 1
    unfold bitR
    rw [show (8 * i + t) / 8 = i by omega, show (8 * i + t) % 8 = t by omega, show (8 * j + b) / 8 = j by omega, show (8 * j + b) % 8 = b by omega,
      Nat.testBit_eq_decide_div_mod_eq, Nat.shiftRight_eq_div_pow, Nat.and_one_is_mod]
  unfold dotp
  rw [show 32 = 8 * 0 + 8 + 8 + 8 + 8 from rfl, par_app, par_app, par_app]
  rw [show (fun k => (orP m a (8 * i + t) (8 * 0 + 8 + 8 + 8 + 8)).testBit k && (enc y).testBit k) = fun k => (orP m a (8 * i + t) 32).testBit k && (enc y).testBit k from rfl]
  have p0 := part 0 (by omega)
  have p1 := part 1 (by omega)
  have p2 := part 2 (by omega)
  have p3 := part 3 (by omega)
  simp only [Nat.mul_zero, Nat.zero_add, Nat.mul_one, Nat.reduceMul, Nat.reduceAdd] at p0 p1 p2 p3 ⊢
  rw [p0, p1, p2, p3]
  show _ = (0 ^^^ tm m (a (i * 4 + 0)) (y 0) ^^^ tm m (a (i * 4 + 1)) (y 1) ^^^ tm m (a (i * 4 + 2)) (y 2) ^^^ tm m (a (i * 4 + 3)) (y 3)).toNat.testBit t
  rw [UInt8.zero_xor, UInt8.toNat_xor, UInt8.toNat_xor, UInt8.toNat_xor, Nat.testBit_xor, Nat.testBit_xor, Nat.testBit_xor]
theorem rank_aux (hf : fieldB m = true) (a : Nat → UInt8) {L : List Nat} (hL : L.length = 32) (hget : ∀ q, q < 32 → L.getD q 0 = orP m a q 32) (hmem : ∀ x, x ∈ L → ∃ q, q < 32 ∧ x = orP m a q 32) : ((basF [] L).length = 32) ↔ detF m a ≠ 0 := by
  obtain ⟨_, hI, hS⟩ := basF_ok L (B := []) trivial trivial
  generalize basF [] L = Bs' at *
  constructor
  · intro h32 hd
    obtain ⟨y, hy, i, hi, hne⟩ := ker_sing h0 h1 hf hd
    have hrow : ∀ x, x ∈ L → dotp x (enc y) = false := fun x hx => by
      obtain ⟨q, hq, rfl⟩ := hmem x hx
      have := row_dot h0 h1 a y (i := q / 8) (t := q % 8) (by omega) (by omega)
      rw [show 8 * (q / 8) + q % 8 = q by omega] at this
      rw [this, hy (q / 8) (by omega)]
      exact Nat.zero_testBit _
    have hlt : ∀ v, Spn L v → v < 4294967296 := by
      have hx : ∀ {l : List Nat} {v : Nat}, (∀ x, x ∈ l → x < 2 ^ 32) → Spn l v → v < 2 ^ 32 := fun {l} => by
        induction l with
        | nil => intro v _ h; rw [show v = 0 from h]; exact Nat.two_pow_pos 32
        | cons x l ih =>
          intro v hl h
          have hl' : ∀ y, y ∈ l → y < 2 ^ 32 := fun y hy => hl y (List.mem_cons_of_mem _ hy)
          rcases h with h | h
          · exact ih hl' h
          · have := Nat.xor_lt_two_pow (ih hl' h) (hl x (List.mem_cons_self ..))
            rwa [xx] at this
      exact fun v => hx fun x hx => by
        obtain ⟨q, hq, rfl⟩ := hmem x hx
        exact orP_lt m a q 32
    have hall : ∀ v, v < 4294967296 → Spn L v := fun v hv => by
      obtain ⟨M, hM, e⟩ := inj_surj 4294967296 (sel Bs') (fun M _ => hlt _ ((hS _).1 (sel_span Bs' M))) (fun M M' hM hM' e => sel_inj hI (by rw [h32]; exact hM) (by rw [h32]; exact hM') e) v hv
      rw [← e]
      exact (hS _).1 (sel_span Bs' M)
    refine hne ?_
    have hbit : ∀ c, c < 32 → (enc y).testBit c = false := fun c hc => by
      have := dotp_span hrow (hall (2 ^ c) (Nat.pow_lt_pow_right (n := 32) (by omega) hc))
      unfold dotp at this
      rwa [par_one (k := c) hc (fun i _ hne => by rw [two_bit, decide_eq_false (Ne.symm hne), Bool.false_and]), two_bit, decide_eq_true rfl, Bool.true_and] at this
    have he : enc y = 0 := Nat.eq_of_testBit_eq fun c => by
      rw [Nat.zero_testBit]
      rcases Nat.lt_or_ge c 32 with h | h
      · exact hbit c h
      · exact Nat.testBit_lt_two_pow (Nat.lt_of_lt_of_le (enc_lt y) (Nat.pow_le_pow_right (n := 2) (by omega) h))
    rw [← vec_enc y hi, he]
    unfold vecN
    rw [Nat.zero_div]; rfl
  · intro hd
    have hIL : Ind L := Ind_of_sel fun M hM e => by
      rw [hL] at hM
      refine Nat.eq_of_testBit_eq fun c => ?_
      rw [Nat.zero_testBit]
      rcases Nat.lt_or_ge c 32 with hc | hc
      · obtain ⟨y, hy⟩ := D_surj h0 h1 hf hd fun i => if i = c / 8 then UInt8.ofNat (2 ^ (c % 8)) else 0
        have h2 := dotp_sel (enc y) L M
        rw [e, dotp_zero, hL] at h2
        have key : ∀ q, q < 32 → dotp (L.getD q 0) (enc y) = decide (q = c) := fun q hq => by
          have hr := row_dot h0 h1 a y (i := q / 8) (t := q % 8) (by omega) (by omega)
          rw [show 8 * (q / 8) + q % 8 = q by omega, hy (q / 8) (by omega)] at hr
          rw [hget q hq, hr]
          by_cases h8 : q / 8 = c / 8
          · have h3 : 2 ^ (c % 8) < 256 := Nat.pow_lt_pow_right (n := 8) (by omega) (by omega)
            rw [if_pos h8, u8_ofNat_toNat h3, two_bit]
            exact decide_eq_decide.2 (by omega)
          · rw [if_neg h8, decide_eq_false (by intro e; subst e; exact h8 rfl)]
            exact Nat.zero_testBit _
        rw [par_one (k := c) hc (fun q hq hne => by rw [key q hq, decide_eq_false hne, Bool.and_false]), key c hc, decide_eq_true rfl, Bool.and_true] at h2
        exact h2.symm
      · exact Nat.testBit_lt_two_pow (Nat.lt_of_lt_of_le hM (Nat.pow_le_pow_right (n := 2) (by omega) hc))
    rw [Ind_eq hI hIL fun v => by rw [hS v, List.nil_append], hL]
/-- The rank is 32 exactly where the determinant is not 0. -/
theorem rank_det (hf : fieldB m = true) (a : Nat → UInt8) : (rankB (fun q => orP m a q 32) 32 = 32) ↔ detF m a ≠ 0 := by
  unfold rankB
  refine rank_aux h0 h1 hf a (by simp [tailL]) (fun q hq => ?_) fun x hx => ?_
  · unfold tailL
    rw [List.getD_eq_getElem?_getD, List.getElem?_map, List.getElem?_range (by omega)]
    simp
  · obtain ⟨q, hq, e⟩ := List.mem_map.1 hx
    exact ⟨q, List.mem_range.1 hq, by rw [← e, Nat.zero_add]⟩
end
end Go.Proofs.Ytkgiocoiojdgfaa
/- FnMatrices. -/
namespace Go.Proofs.Ytkgiocoiojdgfaa
set_option linter.unusedSimpArgs false
set_option linter.unusedVariables false
set_option maxRecDepth 20000
set_option maxHeartbeats 1000000
open Go.Abs

theorem likeI_ac {h : List Blk} {b b' n : Nat} {f : Nat → Int} {r r' : Bool} (hb : h[b]? = some ⟨Is n f, r⟩) (hb' : h[b']? = some ⟨Is n f, r'⟩) (hn : n ≤ 1048576) : AC Try.prog 37 [sl b 0 n 1, sl b' 0 n 1] h (.bool true) h := by
  have e : Is n f = Il ((List.range n).map f) := by unfold Is Il; rw [List.map_map]; rfl
  have hl : ((List.range n).map f).length = n := by simp
  rw [e] at hb hb'
  have := likeInts_ac hb hb' (by rw [hl]; exact hn)
  rwa [hl] at this
theorem likeNil_ac (h : List Blk) : AC Try.prog 37 [.slice none 0 0, .slice none 0 0] h (.bool true) h := by
  (refine AC_begin (fun _ _ => Try.call37 _ _) Try.func37 rfl Try.ntmps37 Try.results37 (fun hwf => ?_); simp only [List.length_cons, List.length_nil, Nat.reduceAdd, Nat.reduceSub, List.replicate, List.cons_append, List.nil_append])
  (repeat (first | ((first | (refine And.intro ?_ ?_; focus (first | exact plain_agg (by simp only [go_sem]) | exact plain_two (by first | exact plain_agg (by simp only [go_sem]) | rfl) rfl | rfl)) | refine WA_seq (WA_region ?_) | refine WA_region ?_ | refine WA_exit ?_); try simp (maxSteps := 1000000) (disch := first | omega | rfl | decide | (simp only [List.length_cons, List.length_nil, List.length_append, Bs_length, Is_length, Vs_length, Bl_length, Il_length] <;> omega)) only [go_sem, Nat.reduceAdd, Int.reduceAdd, Int.reduceSub, Int.reduceMul, Bool.not_true, Bool.not_false, bne_self_eq_false]) | refine WA_seq ?_ | refine WA_block ?_ | (refine WA_skip ?_; try simp only [go_sem]) | (refine WA_ret ?_; try simp only [go_sem]) | refine WA_ct rfl ?_ | refine WA_cf rfl ?_))
  refine WA_forH (fun k => [(4, J), (5, .int .i64 k), (11, J), (12, J), (13, J), (14, J), (15, J), (16, J), (17, J), (18, J), (19, J), (20, J), (21, J), (22, J), (23, J), (24, J), (25, J)]) (fun k => h) (0) ?_ ?_ ?_ <;> (try simp only [patT_cons, patT_nil, patL_cons, patL_nil, list_set_zero, list_set_succ, blk_set_zero, blk_set_succ])
  · (refine Drop_slots (by first | exact Nat.le_refl _ | simp) ?_; focus ((try simp only [JL_same, JL_J, JL_nil, Int.reduceAdd, Nat.sub_sub, Int.natCast_add, Int.natCast_one, Int.natCast_zero, Int.cast_ofNat_Int, Nat.add_zero, Bool.false_eq_true, if_false, if_true]); (try exact JL_refl _)))
  · intro k hk
    omega
  · (repeat (first | ((first | (refine And.intro ?_ ?_; focus (first | exact plain_agg (by simp only [go_sem]) | exact plain_two (by first | exact plain_agg (by simp only [go_sem]) | rfl) rfl | rfl)) | refine WA_seq (WA_region ?_) | refine WA_region ?_ | refine WA_exit ?_); try simp (maxSteps := 1000000) (disch := first | omega | rfl | decide | (simp only [List.length_cons, List.length_nil, List.length_append, Bs_length, Is_length, Vs_length, Bl_length, Il_length] <;> omega)) only [go_sem, Nat.reduceAdd, Int.reduceAdd, Int.reduceSub, Int.reduceMul, Bool.not_true, Bool.not_false, show decide ((0 : Nat) < 0) = false from rfl, show decide ((0 : Int) < 0) = false from rfl]) | refine WA_seq ?_ | refine WA_block ?_ | (refine WA_skip ?_; try simp only [go_sem]) | (refine WA_ret ?_; try simp only [go_sem]) | refine WA_ct rfl ?_ | refine WA_cf rfl ?_))
    ((first | refine ret_none (by first | exact .inr rfl | exact .inl rfl) ?_ | refine ret_same (by first | exact .inr rfl | exact .inl rfl) ?_ (by first | rfl | exact plain_agg (by simp only [go_sem]) | exact plain_two (by first | exact plain_agg (by simp only [go_sem]) | rfl) (by first | exact plain_agg (by simp only [go_sem]) | rfl)) | refine ret_full (by first | exact .inr rfl | exact .inl rfl) (by simp) ?_); simp (maxSteps := 1000000) (disch := first | omega | rfl | decide | (simp only [List.length_cons, List.length_nil, List.length_append, Bs_length, Is_length, Vs_length, Bl_length, Il_length] <;> omega)) only [go_sem, Nat.reduceAdd, Int.reduceAdd, Int.reduceSub, Int.reduceMul, Bool.not_true, Bool.not_false]; try rfl)
theorem likeB_ac {m : Int} {a : Nat → UInt8} {h : List Blk} {v w : Value} (c : BtV m a h v) (d : BtV m a h w) : AC Try.prog 37 [v, w] (ro h) (.bool true) (ro h) := by
  cases c with
  | no hf =>
    cases d with
    | no _ => exact likeNil_ac _
    | ok hf2 _ => rw [hf] at hf2; cases hf2
  | ok hf hb =>
    cases d with
    | no hf2 => rw [hf] at hf2; cases hf2
    | ok _ hb' => exact likeI_ac (ro_of hb) (ro_of hb') (by omega)
theorem codeF_fcN (m : Int) : codeF m = fcN m := by unfold codeF fcN; cases fieldB m.toNat <;> rfl
theorem invMC_ok (m : Int) (a : Nat → UInt8) : (invMC m a == 0) = (fieldB m.toNat && detF m.toNat a != 0) := by
  unfold invMC
  cases fieldB m.toNat
  · rfl
  · cases detF m.toNat a != 0 <;> rfl
theorem okB_t (n : Nat) (a : Nat → UInt8) : okV (rowB n a) 32 = true := okV_t fun j _ => by
  have := orP_lt n a j 32
  unfold inR rowB
  rw [Bool.and_eq_true, decide_eq_true_eq, decide_eq_true_eq]
  omega
theorem rkB_c (n : Nat) (a : Nat → UInt8) : rkC (rowB n a) 32 = 0 := by unfold rkC; rw [okB_t]; rfl
theorem rkB_v (n : Nat) (a : Nat → UInt8) : rkV (rowB n a) 32 = ((rankB (fun q => orP n a q 32) 32 : Nat) : Int) := by
  unfold rkV
  rw [okB_t, show (fun q => (rowB n a q).toNat) = fun q => orP n a q 32 from rfl]; rfl
attribute [local irreducible] rankB orP rowB mmF detF invMF invMC trF backF rkV rkC okV ordF
set_option maxHeartbeats 8000000 in
theorem fnMatrices_ok {h : List Blk} {cv : Value} (c : Cv h cv) : AC Try.prog 8 [cv] h (.bool true) h := by
  have hbg := big_ac c
  obtain ⟨m, a, b, H1, e1, v1, d1⟩ := drTmx_op c
  obtain ⟨bI, H2, e2, y2, d2⟩ := bitI_op m a (H1 ++ [⟨Bs 16 a, true⟩, ⟨Bs 16 b, true⟩, ⟨Bs 16 (cond (fieldB m.toNat) (mmF m.toNat a b) zeroF), true⟩, ⟨Bs 16 (cond (fieldB m.toNat) (mmF m.toNat a b) zeroF), true⟩, ⟨Bs 16 (invMF m a), true⟩, ⟨Bs 16 (invMF m a), true⟩])
  obtain ⟨bS, H3, e3, y3, d3⟩ := bitS_op m a H2
  have y2' : BtV m a H3 bI := by obtain ⟨A, rfl⟩ := e3; exact y2.app A
  have lk := likeB_ac y2' y3
  have e23 := app_tr e2 e3
  have K0 : H3[H1.length]? = some ⟨Bs 16 a, true⟩ := by obtain ⟨A, rfl⟩ := e23; simp
  have K1 : H3[H1.length + 1]? = some ⟨Bs 16 b, true⟩ := by obtain ⟨A, rfl⟩ := e23; simp
  have K2 : H3[H1.length + 2]? = some ⟨Bs 16 (cond (fieldB m.toNat) (mmF m.toNat a b) zeroF), true⟩ := by obtain ⟨A, rfl⟩ := e23; simp
  have K3 : H3[H1.length + 3]? = some ⟨Bs 16 (cond (fieldB m.toNat) (mmF m.toNat a b) zeroF), true⟩ := by obtain ⟨A, rfl⟩ := e23; simp
  have K4 : H3[H1.length + 4]? = some ⟨Bs 16 (invMF m a), true⟩ := by obtain ⟨A, rfl⟩ := e23; simp
  have K5 : H3[H1.length + 5]? = some ⟨Bs 16 (invMF m a), true⟩ := by obtain ⟨A, rfl⟩ := e23; simp
  have K0' : H2[H1.length]? = some ⟨Bs 16 a, true⟩ := by obtain ⟨A, rfl⟩ := e2; simp
  have v3 : Cv H3 cv := by obtain ⟨A, rfl⟩ := e23; exact (v1.app _).app A
  have E3 : ∃ A, H3 = h ++ A := by
    obtain ⟨A, rfl⟩ := e23
    exact app_app (app_app e1)
  have n1 := app_len e1
  have n3 := app_len E3
  have hbH := blt K5
  have hbH2 := blt K0'
  have ov3 : OldV H3.length cv := c.old n3
  have hT2 : Bs 16 (trF (trF a)) = Bs 16 a := Bs_congr fun i hi => trF_two a hi
  obtain ⟨k, e, H4, e4, v4, d4⟩ := drOrm_op v3
  have E4 := app_tr E3 e4
  have n4 := app_len E4
  obtain ⟨v, n, bl, H5, hn5, e5, k5, d5⟩ := drRkb_op (v4.app [⟨Bs 16 e, true⟩])
  have E5 : ∃ A, H5 = h ++ A := app_tr (app_app E4) e5
  have n5 := app_len E5
  have r1 := rkbI_ac k5 (by omega)
  have r2 := rkbS_ac k5 (by omega)
  clear v1 v3 v4 e23 e2 e3 e4 e5
  (refine AC_begin (fun _ _ => Try.call8 _ _) Try.func8 rfl Try.ntmps8 Try.results8 (fun hwf => ?_); simp only [List.length_cons, List.length_nil, Nat.reduceAdd, Nat.reduceSub, List.replicate, List.cons_append, List.nil_append])
  (repeat (first | ((first | (refine And.intro ?_ ?_; focus (first | exact plain_agg (by simp only [go_sem]) | exact plain_two (by first | exact plain_agg (by simp only [go_sem]) | rfl) rfl | rfl)) | ((first | with_reducible apply callB_i | with_reducible apply callK_intro | with_reducible apply callQ_i); (focus (first | assumption | ((first | with_reducible apply hbg | with_reducible apply d1 | with_reducible apply tmxI_ac | with_reducible apply tmxS_ac | with_reducible apply detI_ac | with_reducible apply detS_ac | with_reducible apply invMI_ac | with_reducible apply invMS_ac | with_reducible apply d2 | with_reducible apply d3 | with_reducible apply trpI_ac | with_reducible apply trpS_ac) <;> (first | assumption | rfl | (simp (disch := omega) only [go_sem]; first | done | rfl) | omega | decide | (simp; done))))); (try (focus (refine WP.mk ?_ ?_; (focus ((repeat (first | exact trivial | (refine And.intro ?_ ?_; (focus first | exact plainV_wf rfl | (refine plainV_wf (plain_agg ?_); simp only [go_sem]; done) | (simp only [wfV, wf1, wfC, List.length_append, List.length_cons, List.length_nil]; omega))))))); (focus (first | rfl | (refine plain_agg ?_; simp only [go_sem]; done) | (refine plain_two ?_ ?_ <;> first | rfl | (refine plain_agg ?_; simp only [go_sem]; done)))))))) | refine WA_seq (WA_region ?_) | refine WA_region ?_ | refine WA_exit ?_); try simp (maxSteps := 1000000) (disch := first | omega | rfl | decide | (simp only [List.length_cons, List.length_nil, List.length_append, Bs_length, Is_length, Vs_length, Bl_length, Il_length] <;> omega)) only [go_sem, Nat.reduceAdd, Int.reduceAdd, Int.reduceSub, Int.reduceMul, Bool.not_true, Bool.not_false, bne_self_eq_false, beq_self_eq_true, eqB_self, K0, K1, K2, K3, K4, K5, K0', hT2, fcN_ok, yieldA_at 2 209, yieldA_at 2 268, yieldA_at 3 110, yieldA_at 3 310, yieldA_at 6 213, yieldA_at 7 273, yieldA_at 8 115, yieldA_at 8 315, yieldA_at 10 217, yieldA_at 13 120, yieldA_at 13 320, yieldA_at 14 221, yieldA_at 18 125, yieldA_at 18 225, yieldA_at 22 229, yieldA_at 23 130, yieldA_at 26 233, yieldA_at 28 135, yieldA_at 31 238, yieldA_at 33 140, yieldA_at 36 243, yieldA_at 39 146, yieldA_at 43 250, yieldA_at 46 153]) | (refine WA_seq (WA_draw (id := 12) mixedOk (by kernel_rfl) ?_); simp (maxSteps := 1000000) (disch := first | omega | rfl | decide | (simp only [List.length_cons, List.length_nil, List.length_append, Bs_length, Is_length, Vs_length, Bl_length, Il_length] <;> omega)) only [go_sem, Nat.reduceAdd, Int.reduceAdd, Int.reduceSub, Int.reduceMul, Bool.not_true, Bool.not_false, bne_self_eq_false, beq_self_eq_true, eqB_self, K0, K1, K2, K3, K4, K5, K0', hT2, fcN_ok, yieldA_at 2 209, yieldA_at 2 268, yieldA_at 3 110, yieldA_at 3 310, yieldA_at 6 213, yieldA_at 7 273, yieldA_at 8 115, yieldA_at 8 315, yieldA_at 10 217, yieldA_at 13 120, yieldA_at 13 320, yieldA_at 14 221, yieldA_at 18 125, yieldA_at 18 225, yieldA_at 22 229, yieldA_at 23 130, yieldA_at 26 233, yieldA_at 28 135, yieldA_at 31 238, yieldA_at 33 140, yieldA_at 36 243, yieldA_at 39 146, yieldA_at 43 250, yieldA_at 46 153]) | (refine WA_draw (id := 12) mixedOk (by kernel_rfl) ?_; simp (maxSteps := 1000000) (disch := first | omega | rfl | decide | (simp only [List.length_cons, List.length_nil, List.length_append, Bs_length, Is_length, Vs_length, Bl_length, Il_length] <;> omega)) only [go_sem, Nat.reduceAdd, Int.reduceAdd, Int.reduceSub, Int.reduceMul, Bool.not_true, Bool.not_false, bne_self_eq_false, beq_self_eq_true, eqB_self, K0, K1, K2, K3, K4, K5, K0', hT2, fcN_ok, yieldA_at 2 209, yieldA_at 2 268, yieldA_at 3 110, yieldA_at 3 310, yieldA_at 6 213, yieldA_at 7 273, yieldA_at 8 115, yieldA_at 8 315, yieldA_at 10 217, yieldA_at 13 120, yieldA_at 13 320, yieldA_at 14 221, yieldA_at 18 125, yieldA_at 18 225, yieldA_at 22 229, yieldA_at 23 130, yieldA_at 26 233, yieldA_at 28 135, yieldA_at 31 238, yieldA_at 33 140, yieldA_at 36 243, yieldA_at 39 146, yieldA_at 43 250, yieldA_at 46 153]) | refine WA_seq ?_ | refine WA_block ?_ | (refine WA_skip ?_; try simp only [go_sem]) | (refine WA_ret ?_; try simp only [go_sem]) | refine WA_ct rfl ?_ | refine WA_cf rfl ?_))
  refine WA_midH [(18, J), (19, J), (20, J), (21, J), (22, J), (23, J), (24, J), (25, J), (26, J), (27, J), (28, J), (29, J), (30, J), (31, J), (32, J), (33, J), (34, J), (35, J), (95, J), (96, J), (97, J), (98, J), (99, J), (100, J), (101, J), (102, J), (103, J), (104, J), (105, J), (106, J), (107, J), (108, J), (109, J), (110, J), (111, J), (112, J), (113, J), (114, J), (115, J), (116, J), (117, J), (118, J), (119, J), (120, J), (121, J), (122, J), (123, J), (124, J), (125, J), (126, J), (127, J), (128, J), (129, J), (130, J), (131, J), (132, J), (133, J), (134, J), (135, J), (136, J), (137, J), (138, J), (139, J), (140, J), (141, J), (142, J), (143, J), (144, J), (145, J), (146, J), (147, J), (148, J), (149, J), (150, J), (151, J), (152, J), (153, J), (154, J), (155, J), (156, J), (157, J), (158, J), (159, J), (162, J), (163, J), (164, J), (165, J), (166, J), (167, J), (168, J), (169, J), (170, J), (171, J), (172, J), (173, J), (174, J), (175, J), (176, J), (177, J), (178, J), (179, J), (180, J), (181, J), (182, J), (183, J), (184, J), (185, J), (186, J), (187, J), (188, J), (189, J), (190, J), (191, J), (192, J), (193, J), (194, J), (195, J), (196, J), (197, J), (198, J), (199, J), (200, J), (201, J), (202, J), (203, J), (204, J), (205, J), (206, J), (207, J), (208, J), (209, J), (210, J), (211, J), (212, J), (213, J), (214, J), (215, J), (216, J), (217, J), (218, J), (219, J), (220, J), (221, J), (222, J), (223, J), (224, J), (225, J), (226, J), (227, J), (228, J), (229, J), (230, J), (231, J), (232, J), (233, J), (234, J), (235, J), (236, J), (237, J), (238, J), (239, J), (240, J), (241, J), (242, J), (243, J), (244, J), (245, J), (246, J), (247, J), (248, J), (249, J), (250, J), (251, J), (252, J), (253, J), (254, J), (255, J), (256, J)] ?_ ?_ <;> (try simp only [patT_cons, patT_nil, patL_cons, patL_nil, list_set_zero, list_set_succ, blk_set_zero, blk_set_succ])
  · refine WA_wf fun hwf3 => ?_
    refine WA_cond rfl (fun hb => ?_) (fun hb => ?_)
    · obtain ⟨n, rfl, hn, h0, h1⟩ := fieldB_nat hb
      rw [Int.toNat_natCast, hn, cond_true] at K2
      have hcf : codeF (n : Int) = 0 := by rw [codeF_fcN]; exact fcN_is hn
      have hfc : fcN (n : Int) = 0 := fcN_is hn
      have hdm := det_mul h0 h1 hn a b
      have hrk := rank_det h0 h1 hn a
      have has : eqB 16 (mmF n (mmF n a b) b) (mmF n a (mmF n b b)) = true := Bs_of fun i hi => mm_assoc h0 h1 a b b hi
      cases y2' with
      | no hf => rw [Int.toNat_natCast, hn] at hf; cases hf
      | ok hf hq =>
        have hrb := rkbI_ac (look_old hq [⟨Bs 16 (mmF n (mmF n a b) b), true⟩, ⟨Bs 16 (mmF n b b), true⟩, ⟨Bs 16 (mmF n a (mmF n b b)), true⟩]) (by omega)
        rw [Int.toNat_natCast, rkB_c, rkB_v] at hrb
        generalize rankB (fun q => orP n a q 32) 32 = R at *
        have hrq2 : ((R == 32) == (detF n a != 0)) = true := by
          by_cases hd : detF n a = 0
          · have : R ≠ 32 := fun e => (hrk.1 e) hd
            rw [beq_eq_false_iff_ne.2 this, hd]; rfl
          · have h2 := hrk.2 hd
            rw [h2, bne_iff_ne.2 hd]; rfl
        have hiv2 : ((invMC (n : Int) a == 0) == (detF n a != 0)) = true := by
          rw [invMC_ok, Int.toNat_natCast, hn, Bool.true_and, beq_self_eq_true]
        (repeat (first | ((first | (refine And.intro ?_ ?_; focus (first | exact plain_agg (by simp only [go_sem]) | exact plain_two (by first | exact plain_agg (by simp only [go_sem]) | rfl) rfl | rfl)) | ((first | with_reducible apply callB_i | with_reducible apply callK_intro | with_reducible apply callQ_i); (focus (first | assumption | ((first | with_reducible apply detI_ac | with_reducible apply timI_ac | with_reducible apply tmxI_ac | with_reducible apply hrb) <;> (first | assumption | rfl | (simp (disch := omega) only [go_sem]; first | done | rfl) | omega | decide | (simp; done))))); (try (focus (refine WP.mk ?_ ?_; (focus ((repeat (first | exact trivial | (refine And.intro ?_ ?_; (focus first | exact plainV_wf rfl | (refine plainV_wf (plain_agg ?_); simp only [go_sem]; done) | (simp only [wfV, wf1, wfC, List.length_append, List.length_cons, List.length_nil]; omega))))))); (focus (first | rfl | (refine plain_agg ?_; simp only [go_sem]; done) | (refine plain_two ?_ ?_ <;> first | rfl | (refine plain_agg ?_; simp only [go_sem]; done)))))))) | refine WA_seq (WA_region ?_) | refine WA_region ?_ | refine WA_exit ?_); try simp (maxSteps := 1000000) (disch := first | omega | rfl | decide | (simp only [List.length_cons, List.length_nil, List.length_append, Bs_length, Is_length, Vs_length, Bl_length, Il_length] <;> omega)) only [go_sem, Nat.reduceAdd, Int.reduceAdd, Int.reduceSub, Int.reduceMul, Bool.not_true, Bool.not_false, look_old K0, look_old K1, look_old K2, hrq2, hiv2, K0, K1, K2, hcf, hfc, Int.toNat_natCast, hn, if_true, cond_true, bne_self_eq_false, Bool.not_true, tmI_is hn, hdm, has, yieldA_at 2 209, yieldA_at 2 268, yieldA_at 3 110, yieldA_at 3 310, yieldA_at 6 213, yieldA_at 7 273, yieldA_at 8 115, yieldA_at 8 315, yieldA_at 10 217, yieldA_at 13 120, yieldA_at 13 320, yieldA_at 14 221, yieldA_at 18 125, yieldA_at 18 225, yieldA_at 22 229, yieldA_at 23 130, yieldA_at 26 233, yieldA_at 28 135, yieldA_at 31 238, yieldA_at 33 140, yieldA_at 36 243, yieldA_at 39 146, yieldA_at 43 250, yieldA_at 46 153]) | refine WA_seq ?_ | refine WA_block ?_ | (refine WA_skip ?_; try simp only [go_sem]) | (refine WA_ret ?_; try simp only [go_sem]) | refine WA_ct rfl ?_ | refine WA_cf rfl ?_))
        (refine Drop_gc0 (by first | assumption | exact Nat.le_refl _ | first | assumption | omega | (simp only [List.length_append, List.length_cons, List.length_nil, List.length_replicate]; omega)) (by assumption) ?_; (focus (repeat (first | exact JR_nil | refine JR_J ?_ | (refine JR_plain ?_ ?_; (focus first | rfl | (refine plain_agg ?_; simp only [go_sem, List.all_append, List.all_cons, List.all_nil, Bool.and_self]; done))) | ((first | refine JR_pt ?_ ?_ ?_ | refine JR_sl ?_ ?_ ?_); (focus first | (rw [rhoF_new0]; rfl) | (rw [rhoF_new]; rfl) | (rw [rhoF_old]; first | assumption | omega)); (focus first | assumption | omega | (simp only [List.length_append, List.length_cons, List.length_nil, List.length_replicate]; omega))) | (refine JR_plain' ?_ ?_ ?_; (focus first | rfl | (refine plain_agg ?_; simp only [go_sem, List.all_append, List.all_cons, List.all_nil, Bool.and_self]; done)); (focus (first | rfl | (simp only [Int.natCast_add, Int.natCast_one, Int.natCast_zero, Int.cast_ofNat_Int, Nat.add_zero]; done) | (simp only [Int.natCast_add, Int.natCast_one, Int.natCast_zero, Int.cast_ofNat_Int, Nat.add_zero]; rfl)))) | (refine JR_sl' ?_ ?_ ?_ ?_; (focus first | (rw [rhoF_new0]; rfl) | (rw [rhoF_new]; rfl) | (rw [rhoF_old]; first | assumption | omega)); (focus first | assumption | omega | (simp only [List.length_append, List.length_cons, List.length_nil, List.length_replicate]; omega)); (focus first | rfl | omega | (first | rfl | (simp only [Int.natCast_add, Int.natCast_one, Int.natCast_zero, Int.cast_ofNat_Int, Nat.add_zero]; done) | (simp only [Int.natCast_add, Int.natCast_one, Int.natCast_zero, Int.cast_ofNat_Int, Nat.add_zero]; rfl)))) | (refine JR_old ?_ (Nat.le_refl _) ?_; (focus assumption)))) ))
    · (repeat (first | ((first | (refine And.intro ?_ ?_; focus (first | exact plain_agg (by simp only [go_sem]) | exact plain_two (by first | exact plain_agg (by simp only [go_sem]) | rfl) rfl | rfl)) | refine WA_seq (WA_region ?_) | refine WA_region ?_ | refine WA_exit ?_); try simp (maxSteps := 1000000) (disch := first | omega | rfl | decide | (simp only [List.length_cons, List.length_nil, List.length_append, Bs_length, Is_length, Vs_length, Bl_length, Il_length] <;> omega)) only [go_sem, Nat.reduceAdd, Int.reduceAdd, Int.reduceSub, Int.reduceMul, Bool.not_true, Bool.not_false, yieldA_at 2 209, yieldA_at 2 268, yieldA_at 3 110, yieldA_at 3 310, yieldA_at 6 213, yieldA_at 7 273, yieldA_at 8 115, yieldA_at 8 315, yieldA_at 10 217, yieldA_at 13 120, yieldA_at 13 320, yieldA_at 14 221, yieldA_at 18 125, yieldA_at 18 225, yieldA_at 22 229, yieldA_at 23 130, yieldA_at 26 233, yieldA_at 28 135, yieldA_at 31 238, yieldA_at 33 140, yieldA_at 36 243, yieldA_at 39 146, yieldA_at 43 250, yieldA_at 46 153]) | refine WA_seq ?_ | refine WA_block ?_ | (refine WA_skip ?_; try simp only [go_sem]) | (refine WA_ret ?_; try simp only [go_sem]) | refine WA_ct rfl ?_ | refine WA_cf rfl ?_))
      (refine Drop_slots (by first | assumption | exact Nat.le_refl _) ?_; focus ((try simp only [JL_same, JL_J, JL_nil, Int.reduceAdd, Nat.sub_sub, Int.natCast_add, Int.natCast_one, Int.natCast_zero, Int.cast_ofNat_Int, Nat.add_zero, Bool.false_eq_true, if_false, if_true]); (try exact JL_refl _)))
  (repeat (first | ((first | (refine And.intro ?_ ?_; focus (first | exact plain_agg (by simp only [go_sem]) | exact plain_two (by first | exact plain_agg (by simp only [go_sem]) | rfl) rfl | rfl)) | refine WA_seq (WA_region ?_) | refine WA_region ?_ | refine WA_exit ?_); try simp (maxSteps := 1000000) (disch := first | omega | rfl | decide | (simp only [List.length_cons, List.length_nil, List.length_append, Bs_length, Is_length, Vs_length, Bl_length, Il_length] <;> omega)) only [go_sem, Nat.reduceAdd, Int.reduceAdd, Int.reduceSub, Int.reduceMul, Bool.not_true, Bool.not_false, invMC_ok, yieldA_at 2 209, yieldA_at 2 268, yieldA_at 3 110, yieldA_at 3 310, yieldA_at 6 213, yieldA_at 7 273, yieldA_at 8 115, yieldA_at 8 315, yieldA_at 10 217, yieldA_at 13 120, yieldA_at 13 320, yieldA_at 14 221, yieldA_at 18 125, yieldA_at 18 225, yieldA_at 22 229, yieldA_at 23 130, yieldA_at 26 233, yieldA_at 28 135, yieldA_at 31 238, yieldA_at 33 140, yieldA_at 36 243, yieldA_at 39 146, yieldA_at 43 250, yieldA_at 46 153]) | refine WA_seq ?_ | refine WA_block ?_ | (refine WA_skip ?_; try simp only [go_sem]) | (refine WA_ret ?_; try simp only [go_sem]) | refine WA_ct rfl ?_ | refine WA_cf rfl ?_))
  refine WA_midH [(36, J), (37, J), (259, J), (260, J), (261, J), (262, J), (263, J), (264, J), (265, J), (266, J), (267, J), (268, J), (269, J), (270, J), (271, J), (272, J), (273, J), (274, J), (275, J), (276, J), (277, J)] ?_ ?_ <;> (try simp only [patT_cons, patT_nil, patL_cons, patL_nil, list_set_zero, list_set_succ, blk_set_zero, blk_set_succ])
  · refine WA_wf fun hwf3 => ?_
    refine WA_cond rfl (fun hb => ?_) (fun hb => ?_)
    · rw [Bool.and_eq_true] at hb
      obtain ⟨n, rfl, hn, h0, h1⟩ := fieldB_nat hb.1
      have hd : detF n a ≠ 0 := by have := hb.2; rw [Int.toNat_natCast] at this; simpa using this
      have hi : invMF (n : Int) a = backF n a := by
        have : (detF n a != 0) = true := by simpa using hd
        unfold invMF; rw [Int.toNat_natCast, hn, this]; rfl
      have hfc : fcN (n : Int) = 0 := fcN_is hn
      have hu : Bs 16 (mmF n (backF n a) a) = Bs 16 unitF := Bs_congr fun i hi => mm_back h0 h1 hn hd hi
      rw [hi] at K4
      (repeat (first | ((first | (refine And.intro ?_ ?_; focus (first | exact plain_agg (by simp only [go_sem]) | exact plain_two (by first | exact plain_agg (by simp only [go_sem]) | rfl) rfl | rfl)) | ((first | with_reducible apply callB_i | with_reducible apply callK_intro | with_reducible apply callQ_i); (focus (first | assumption | ((first | with_reducible apply tmxI_ac | with_reducible apply unitI_ac | with_reducible apply unitS_ac) <;> (first | assumption | rfl | (simp (disch := omega) only [go_sem]; first | done | rfl) | omega | decide | (simp; done))))); (try (focus (refine WP.mk ?_ ?_; (focus ((repeat (first | exact trivial | (refine And.intro ?_ ?_; (focus first | exact plainV_wf rfl | (refine plainV_wf (plain_agg ?_); simp only [go_sem]; done) | (simp only [wfV, wf1, wfC, List.length_append, List.length_cons, List.length_nil]; omega))))))); (focus (first | rfl | (refine plain_agg ?_; simp only [go_sem]; done) | (refine plain_two ?_ ?_ <;> first | rfl | (refine plain_agg ?_; simp only [go_sem]; done)))))))) | refine WA_seq (WA_region ?_) | refine WA_region ?_ | refine WA_exit ?_); try simp (maxSteps := 1000000) (disch := first | omega | rfl | decide | (simp only [List.length_cons, List.length_nil, List.length_append, Bs_length, Is_length, Vs_length, Bl_length, Il_length] <;> omega)) only [go_sem, Nat.reduceAdd, Int.reduceAdd, Int.reduceSub, Int.reduceMul, Bool.not_true, Bool.not_false, look_old K0, look_old K4, K0, K4, hfc, Int.toNat_natCast, hn, cond_true, hu, bne_self_eq_false, eqB_self, Bool.not_true, yieldA_at 2 209, yieldA_at 2 268, yieldA_at 3 110, yieldA_at 3 310, yieldA_at 6 213, yieldA_at 7 273, yieldA_at 8 115, yieldA_at 8 315, yieldA_at 10 217, yieldA_at 13 120, yieldA_at 13 320, yieldA_at 14 221, yieldA_at 18 125, yieldA_at 18 225, yieldA_at 22 229, yieldA_at 23 130, yieldA_at 26 233, yieldA_at 28 135, yieldA_at 31 238, yieldA_at 33 140, yieldA_at 36 243, yieldA_at 39 146, yieldA_at 43 250, yieldA_at 46 153]) | (refine WA_seq (WA_draw (id := 26) mixedOk (by kernel_rfl) ?_); simp (maxSteps := 1000000) (disch := first | omega | rfl | decide | (simp only [List.length_cons, List.length_nil, List.length_append, Bs_length, Is_length, Vs_length, Bl_length, Il_length] <;> omega)) only [go_sem, Nat.reduceAdd, Int.reduceAdd, Int.reduceSub, Int.reduceMul, Bool.not_true, Bool.not_false, look_old K0, look_old K4, K0, K4, hfc, Int.toNat_natCast, hn, cond_true, hu, bne_self_eq_false, eqB_self, Bool.not_true, yieldA_at 2 209, yieldA_at 2 268, yieldA_at 3 110, yieldA_at 3 310, yieldA_at 6 213, yieldA_at 7 273, yieldA_at 8 115, yieldA_at 8 315, yieldA_at 10 217, yieldA_at 13 120, yieldA_at 13 320, yieldA_at 14 221, yieldA_at 18 125, yieldA_at 18 225, yieldA_at 22 229, yieldA_at 23 130, yieldA_at 26 233, yieldA_at 28 135, yieldA_at 31 238, yieldA_at 33 140, yieldA_at 36 243, yieldA_at 39 146, yieldA_at 43 250, yieldA_at 46 153]) | (refine WA_draw (id := 26) mixedOk (by kernel_rfl) ?_; simp (maxSteps := 1000000) (disch := first | omega | rfl | decide | (simp only [List.length_cons, List.length_nil, List.length_append, Bs_length, Is_length, Vs_length, Bl_length, Il_length] <;> omega)) only [go_sem, Nat.reduceAdd, Int.reduceAdd, Int.reduceSub, Int.reduceMul, Bool.not_true, Bool.not_false, look_old K0, look_old K4, K0, K4, hfc, Int.toNat_natCast, hn, cond_true, hu, bne_self_eq_false, eqB_self, Bool.not_true, yieldA_at 2 209, yieldA_at 2 268, yieldA_at 3 110, yieldA_at 3 310, yieldA_at 6 213, yieldA_at 7 273, yieldA_at 8 115, yieldA_at 8 315, yieldA_at 10 217, yieldA_at 13 120, yieldA_at 13 320, yieldA_at 14 221, yieldA_at 18 125, yieldA_at 18 225, yieldA_at 22 229, yieldA_at 23 130, yieldA_at 26 233, yieldA_at 28 135, yieldA_at 31 238, yieldA_at 33 140, yieldA_at 36 243, yieldA_at 39 146, yieldA_at 43 250, yieldA_at 46 153]) | refine WA_seq ?_ | refine WA_block ?_ | (refine WA_skip ?_; try simp only [go_sem]) | (refine WA_ret ?_; try simp only [go_sem]) | refine WA_ct rfl ?_ | refine WA_cf rfl ?_))
      (refine Drop_gc0 (by first | assumption | exact Nat.le_refl _ | first | assumption | omega | (simp only [List.length_append, List.length_cons, List.length_nil, List.length_replicate]; omega)) (by assumption) ?_; (focus (repeat (first | exact JR_nil | refine JR_J ?_ | (refine JR_plain ?_ ?_; (focus first | rfl | (refine plain_agg ?_; simp only [go_sem, List.all_append, List.all_cons, List.all_nil, Bool.and_self]; done))) | ((first | refine JR_pt ?_ ?_ ?_ | refine JR_sl ?_ ?_ ?_); (focus first | (rw [rhoF_new0]; rfl) | (rw [rhoF_new]; rfl) | (rw [rhoF_old]; first | assumption | omega)); (focus first | assumption | omega | (simp only [List.length_append, List.length_cons, List.length_nil, List.length_replicate]; omega))) | (refine JR_plain' ?_ ?_ ?_; (focus first | rfl | (refine plain_agg ?_; simp only [go_sem, List.all_append, List.all_cons, List.all_nil, Bool.and_self]; done)); (focus (first | rfl | (simp only [Int.natCast_add, Int.natCast_one, Int.natCast_zero, Int.cast_ofNat_Int, Nat.add_zero]; done) | (simp only [Int.natCast_add, Int.natCast_one, Int.natCast_zero, Int.cast_ofNat_Int, Nat.add_zero]; rfl)))) | (refine JR_sl' ?_ ?_ ?_ ?_; (focus first | (rw [rhoF_new0]; rfl) | (rw [rhoF_new]; rfl) | (rw [rhoF_old]; first | assumption | omega)); (focus first | assumption | omega | (simp only [List.length_append, List.length_cons, List.length_nil, List.length_replicate]; omega)); (focus first | rfl | omega | (first | rfl | (simp only [Int.natCast_add, Int.natCast_one, Int.natCast_zero, Int.cast_ofNat_Int, Nat.add_zero]; done) | (simp only [Int.natCast_add, Int.natCast_one, Int.natCast_zero, Int.cast_ofNat_Int, Nat.add_zero]; rfl)))) | (refine JR_old ?_ (Nat.le_refl _) ?_; (focus assumption)))) ))
    · (repeat (first | ((first | (refine And.intro ?_ ?_; focus (first | exact plain_agg (by simp only [go_sem]) | exact plain_two (by first | exact plain_agg (by simp only [go_sem]) | rfl) rfl | rfl)) | refine WA_seq (WA_region ?_) | refine WA_region ?_ | refine WA_exit ?_); try simp (maxSteps := 1000000) (disch := first | omega | rfl | decide | (simp only [List.length_cons, List.length_nil, List.length_append, Bs_length, Is_length, Vs_length, Bl_length, Il_length] <;> omega)) only [go_sem, Nat.reduceAdd, Int.reduceAdd, Int.reduceSub, Int.reduceMul, Bool.not_true, Bool.not_false, yieldA_at 2 209, yieldA_at 2 268, yieldA_at 3 110, yieldA_at 3 310, yieldA_at 6 213, yieldA_at 7 273, yieldA_at 8 115, yieldA_at 8 315, yieldA_at 10 217, yieldA_at 13 120, yieldA_at 13 320, yieldA_at 14 221, yieldA_at 18 125, yieldA_at 18 225, yieldA_at 22 229, yieldA_at 23 130, yieldA_at 26 233, yieldA_at 28 135, yieldA_at 31 238, yieldA_at 33 140, yieldA_at 36 243, yieldA_at 39 146, yieldA_at 43 250, yieldA_at 46 153]) | refine WA_seq ?_ | refine WA_block ?_ | (refine WA_skip ?_; try simp only [go_sem]) | (refine WA_ret ?_; try simp only [go_sem]) | refine WA_ct rfl ?_ | refine WA_cf rfl ?_))
      (refine Drop_slots (by first | assumption | exact Nat.le_refl _) ?_; focus ((try simp only [JL_same, JL_J, JL_nil, Int.reduceAdd, Nat.sub_sub, Int.natCast_add, Int.natCast_one, Int.natCast_zero, Int.cast_ofNat_Int, Nat.add_zero, Bool.false_eq_true, if_false, if_true]); (try exact JL_refl _)))
  (repeat (first | ((first | (refine And.intro ?_ ?_; focus (first | exact plain_agg (by simp only [go_sem]) | exact plain_two (by first | exact plain_agg (by simp only [go_sem]) | rfl) rfl | rfl)) | ((first | with_reducible apply callB_i | with_reducible apply callK_intro | with_reducible apply callQ_i); (focus (first | assumption | ((first | with_reducible apply d4 | with_reducible apply ormI_ac | with_reducible apply ormS_ac | with_reducible apply d5 | with_reducible apply r1 | with_reducible apply r2) <;> (first | assumption | rfl | (simp (disch := omega) only [go_sem]; first | done | rfl) | omega | decide | (simp; done))))); (try (focus (refine WP.mk ?_ ?_; (focus ((repeat (first | exact trivial | (refine And.intro ?_ ?_; (focus first | exact plainV_wf rfl | (refine plainV_wf (plain_agg ?_); simp only [go_sem]; done) | (simp only [wfV, wf1, wfC, List.length_append, List.length_cons, List.length_nil]; omega))))))); (focus (first | rfl | (refine plain_agg ?_; simp only [go_sem]; done) | (refine plain_two ?_ ?_ <;> first | rfl | (refine plain_agg ?_; simp only [go_sem]; done)))))))) | refine WA_seq (WA_region ?_) | refine WA_region ?_ | refine WA_exit ?_); try simp (maxSteps := 1000000) (disch := first | omega | rfl | decide | (simp only [List.length_cons, List.length_nil, List.length_append, Bs_length, Is_length, Vs_length, Bl_length, Il_length] <;> omega)) only [go_sem, Nat.reduceAdd, Int.reduceAdd, Int.reduceSub, Int.reduceMul, Bool.not_true, Bool.not_false, beq_self_eq_true, yieldA_at 2 209, yieldA_at 2 268, yieldA_at 3 110, yieldA_at 3 310, yieldA_at 6 213, yieldA_at 7 273, yieldA_at 8 115, yieldA_at 8 315, yieldA_at 10 217, yieldA_at 13 120, yieldA_at 13 320, yieldA_at 14 221, yieldA_at 18 125, yieldA_at 18 225, yieldA_at 22 229, yieldA_at 23 130, yieldA_at 26 233, yieldA_at 28 135, yieldA_at 31 238, yieldA_at 33 140, yieldA_at 36 243, yieldA_at 39 146, yieldA_at 43 250, yieldA_at 46 153]) | refine WA_seq ?_ | refine WA_block ?_ | (refine WA_skip ?_; try simp only [go_sem]) | (refine WA_ret ?_; try simp only [go_sem]) | refine WA_ct rfl ?_ | refine WA_cf rfl ?_))
  obtain ⟨A, rfl⟩ := E5
  ((first | refine ret_none (by first | exact .inr rfl | exact .inl rfl) ?_ | refine ret_same (by first | exact .inr rfl | exact .inl rfl) ?_ (by first | rfl | exact plain_agg (by simp only [go_sem]) | exact plain_two (by first | exact plain_agg (by simp only [go_sem]) | rfl) (by first | exact plain_agg (by simp only [go_sem]) | rfl)) | refine ret_full (by first | exact .inr rfl | exact .inl rfl) (by simp) ?_); simp (maxSteps := 1000000) (disch := first | omega | rfl | decide | (simp only [List.length_cons, List.length_nil, List.length_append, Bs_length, Is_length, Vs_length, Bl_length, Il_length] <;> omega)) only [go_sem, Nat.reduceAdd, Int.reduceAdd, Int.reduceSub, Int.reduceMul, Bool.not_true, Bool.not_false]; try rfl)

theorem fnMatrices_big {b n : Nat} (hn : 4096 < n) (hn2 : n ≤ 9223372036854775807) (h : List Blk) : AC Try.prog 8 [sl b 0 n 1] h (.bool true) h := by
  have hbg := big_long (b := b) hn hn2
  (refine AC_begin (fun _ _ => Try.call8 _ _) Try.func8 rfl Try.ntmps8 Try.results8 (fun hwf => ?_); simp only [List.length_cons, List.length_nil, Nat.reduceAdd, Nat.reduceSub, List.replicate, List.cons_append, List.nil_append])
  (repeat (first | ((first | (refine And.intro ?_ ?_; focus (first | exact plain_agg (by simp only [go_sem]) | exact plain_two (by first | exact plain_agg (by simp only [go_sem]) | rfl) rfl | rfl)) | ((first | with_reducible apply callB_i | with_reducible apply callK_intro | with_reducible apply callQ_i); (focus (first | assumption | (with_reducible apply hbg <;> (first | assumption | rfl | (simp (disch := omega) only [go_sem]; first | done | rfl) | omega | decide | (simp; done))))); (try (focus (refine WP.mk ?_ ?_; (focus ((repeat (first | exact trivial | (refine And.intro ?_ ?_; (focus first | exact plainV_wf rfl | (refine plainV_wf (plain_agg ?_); simp only [go_sem]; done) | (simp only [wfV, wf1, wfC, List.length_append, List.length_cons, List.length_nil]; omega))))))); (focus (first | rfl | (refine plain_agg ?_; simp only [go_sem]; done) | (refine plain_two ?_ ?_ <;> first | rfl | (refine plain_agg ?_; simp only [go_sem]; done)))))))) | refine WA_seq (WA_region ?_) | refine WA_region ?_ | refine WA_exit ?_); try simp (maxSteps := 1000000) (disch := first | omega | rfl | decide | (simp only [List.length_cons, List.length_nil, List.length_append, Bs_length, Is_length, Vs_length, Bl_length, Il_length] <;> omega)) only [go_sem, Nat.reduceAdd, Int.reduceAdd, Int.reduceSub, Int.reduceMul, Bool.not_true, Bool.not_false, yieldA_at 2 209, yieldA_at 2 268, yieldA_at 3 110, yieldA_at 3 310, yieldA_at 6 213, yieldA_at 7 273, yieldA_at 8 115, yieldA_at 8 315, yieldA_at 10 217, yieldA_at 13 120, yieldA_at 13 320, yieldA_at 14 221, yieldA_at 18 125, yieldA_at 18 225, yieldA_at 22 229, yieldA_at 23 130, yieldA_at 26 233, yieldA_at 28 135, yieldA_at 31 238, yieldA_at 33 140, yieldA_at 36 243, yieldA_at 39 146, yieldA_at 43 250, yieldA_at 46 153]) | refine WA_seq ?_ | refine WA_block ?_ | (refine WA_skip ?_; try simp only [go_sem]) | (refine WA_ret ?_; try simp only [go_sem]) | refine WA_ct rfl ?_ | refine WA_cf rfl ?_))
  ((first | refine ret_none (by first | exact .inr rfl | exact .inl rfl) ?_ | refine ret_same (by first | exact .inr rfl | exact .inl rfl) ?_ (by first | rfl | exact plain_agg (by simp only [go_sem]) | exact plain_two (by first | exact plain_agg (by simp only [go_sem]) | rfl) (by first | exact plain_agg (by simp only [go_sem]) | rfl)) | refine ret_full (by first | exact .inr rfl | exact .inl rfl) (by simp) ?_); simp (maxSteps := 1000000) (disch := first | omega | rfl | decide | (simp only [List.length_cons, List.length_nil, List.length_append, Bs_length, Is_length, Vs_length, Bl_length, Il_length] <;> omega)) only [go_sem, Nat.reduceAdd, Int.reduceAdd, Int.reduceSub, Int.reduceMul, Bool.not_true, Bool.not_false]; try rfl)

end Go.Proofs.Ytkgiocoiojdgfaa
namespace Go.Proofs.Ytkgiocoiojdgfaa
set_option linter.unusedSimpArgs false
set_option linter.unusedVariables false
set_option maxRecDepth 20000
set_option maxHeartbeats 1000000
open Go.Abs

theorem fnMatrices_args (us : List Value) (bl : List Blk) (h : ArgsU Try.prog 0 [43] us bl) : AC Try.prog 8 us bl (.bool true) bl := by
  rcases h.list (m := 1) (e := 5) (by kernel_rfl) (by kernel_rfl) with ⟨us1, rfl, h1⟩ | ⟨n1, f1, us1, bl1, rfl, rfl, hn1, h1⟩
  · obtain ⟨rfl, rfl⟩ := h1.done
    exact fnMatrices_ok .nil
  · obtain ⟨rfl, rfl⟩ := h1.done
    rw [Nat.mul_one]
    rcases Nat.lt_or_ge 4096 n1 with hl | hl
    · exact fnMatrices_big hl (by have : maxLen = 9223372036854775807 := rfl; omega) _
    · exact fnMatrices_ok (Cv.sl (h := [⟨Bs n1 f1, false⟩]) (bc := 0) (f := f1) (rc := false) rfl hl)

set_option maxRecDepth 100000 in
set_option maxHeartbeats 1000000 in
theorem fnMatrices_lifted (os : Os) (started : os.Started) (H : Type) (enc : TypeId × Value → H) :
    ReturnsInHanded {} Try.checked os 8 .any (Rows.fnMatricesSpec.pre6 enc Try.prog Try.f8 Rows.fnMatricesRow.domain false) (Rows.fnMatricesSpec.post enc Try.prog Try.f8 false true false false) :=
  frame_law (C := Try.checked) (by kernel_rfl) started (by kernel_rfl) Try.func8 (by kernel_rfl)
    (ChangeSpec.witness6 (enc := enc) (C := Try.checked) false ⟨#[], #[.slice none 0 0], []⟩ 8 (by kernel_rfl) (by kernel_rfl) (by kernel_rfl) (by kernel_rfl))
    rfl (fun ds h => by rw [Try.params8] at h; match ds, h with | [_], _ => rfl) (by rfl) Try.underlying4 (by rw [Try.params8]; kernel_rfl)
    (by rw [Try.params8]; exact fnMatrices_args)

/-- ████ THE STATEMENT ████ -/
theorem fnMatrices : Rows.FnMatricesSaid :=
  OpenClaim.holds_of_wide 8 Try.f8 rfl rfl rfl rfl rfl rfl rfl ⟨rfl, rfl, rfl, rfl, rfl⟩ rfl rfl rfl rfl rfl (by kernel_rfl) Try.func8 (by kernel_rfl)
    (of_decide_eq_true (by kernel_rfl)) (by unfold Func.isWrapper; first | (rw [if_pos (by decide +kernel)]; kernel_rfl) | (rw [if_neg (by decide +kernel)]; exact ⟨rfl, rfl⟩))
    (fun os started H enc _ => fnMatrices_lifted os started H enc)
#print axioms fnMatrices
end Go.Proofs.Ytkgiocoiojdgfaa
