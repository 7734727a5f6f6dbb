/- A part of the proof of FnLayers. -/
import Derived.Test.YtcfpninklbnifaaQLYH
import Derived.Test.YtcfpninklbnifaaQLY0
import Derived.Test.YtcfpninklbnifaaQLY4
import Derived.Test.YtcfpninklbnifaaQLY5
/- Best steps. -/
namespace Go.Proofs.Ytcfpninklbnifaa
set_option linter.unusedSimpArgs false
set_option linter.unusedVariables false
set_option maxRecDepth 20000
set_option maxHeartbeats 1000000
open Go.Abs

/-- Where the greatest of the first k + 1 stands first. -/
def bestP (f : Nat → Nat) : Nat → Nat
  | 0 => 0
  | k + 1 => if f (bestP f k) < f (k + 1) then k + 1 else bestP f k
theorem bestP_le (f : Nat → Nat) : ∀ k, bestP f k ≤ k
  | 0 => Nat.le_refl 0
  | k + 1 => by have := bestP_le f k; unfold bestP; split <;> omega
theorem bestP_t {f : Nat → Nat} {k : Nat} (h : f (bestP f k) < f (k + 1)) : bestP f (k + 1) = k + 1 := by rw [bestP, if_pos h]
theorem bestP_f {f : Nat → Nat} {k : Nat} (h : ¬ f (bestP f k) < f (k + 1)) : bestP f (k + 1) = bestP f k := by rw [bestP, if_neg h]
theorem bestP_max (f : Nat → Nat) : ∀ k i, i ≤ k → f i ≤ f (bestP f k)
  | 0, i, h => by rw [show i = 0 by omega]; exact Nat.le_refl _
  | k + 1, i, h => by
    by_cases hb : f (bestP f k) < f (k + 1)
    · rw [bestP_t hb]
      rcases Nat.lt_or_ge i (k + 1) with h1 | h1
      · have := bestP_max f k i (by omega); omega
      · rw [show i = k + 1 by omega]; exact Nat.le_refl _
    · rw [bestP_f hb]
      rcases Nat.lt_or_ge i (k + 1) with h1 | h1
      · exact bestP_max f k i (by omega)
      · rw [show i = k + 1 by omega]; omega
theorem bestP_first (f : Nat → Nat) : ∀ k i, i < bestP f k → f i ≠ f (bestP f k)
  | 0, i, h => absurd h (Nat.not_lt_zero i)
  | k + 1, i, h => by
    by_cases hb : f (bestP f k) < f (k + 1)
    · rw [bestP_t hb] at h ⊢
      have := bestP_max f k i (by omega)
      omega
    · rw [bestP_f hb] at h ⊢
      exact bestP_first f k i h
theorem maxI_ac {h : List Blk} {b : Nat} {f : Nat → Nat} {r : Bool} (hb : h[b]? = some ⟨Is 256 (fun y => ((f y : Nat) : Int)), r⟩) : AC Try.prog 104 [sl b 0 256 1] h (.int .i64 ((f (bestP f 255) : Nat) : Int)) h := by
  (refine AC_begin (fun _ _ => Try.call104 _ _) Try.func104 rfl Try.ntmps104 Try.results104 (fun hwf => ?_); simp only [List.length_cons, List.length_nil, Nat.reduceAdd, Nat.reduceSub, List.replicate, List.cons_append, List.nil_append])
  (repeat (first | ((first | (refine And.intro ?_ ?_; focus exact PLA) | refine WA_seq (WA_region ?_) | refine WA_region ?_ | refine WA_exit ?_); try simp (maxSteps := 1000000) (disch := first | omega | rfl | decide | (simp only [List.length_cons, List.length_nil, List.length_append, LV] <;> omega)) only [go_sem, Nat.reduceAdd, Int.reduceAdd, Int.reduceSub, Int.reduceMul, Bool.not_true, Bool.not_false, hb]) | refine WA_seq ?_ | refine WA_block ?_ | (refine WA_skip ?_; try simp only [go_sem]) | (refine WA_ret ?_; try simp only [go_sem]) | refine WA_ct rfl ?_ | refine WA_cf rfl ?_))
  refine WA_forH (fun k => [(3, .int .i64 ((f (bestP f k) : Nat) : Int)), (4, .int .i64 ((k + 1 : Nat) : Int)), (12, J), (13, J), (14, J), (15, J), (16, J), (17, J), (18, J), (19, J), (20, J), (21, J), (22, J), (23, J)]) (fun k => h) (255) ?_ ?_ ?_ <;> (try simp only [patT_cons, patT_nil, patL_cons, patL_nil, list_set_zero, list_set_succ, blk_set_zero, blk_set_succ])
  · (refine Drop_slots (by first | exact Nat.le_refl _ | simp) ?_; focus ((try simp only [JL_same, JL_J, JL_nil, Int.reduceAdd, Nat.sub_sub, Int.natCast_add, Int.natCast_one, Int.natCast_zero, Int.cast_ofNat_Int, Nat.add_zero, Bool.false_eq_true, if_false, if_true, bestP]); (try exact JL_refl _)))
  · intro k hk
    by_cases hx : f (bestP f k) < f (k + 1)
    · have e := bestP_t hx
      have e2 : (((f (bestP f k) : Nat) : Int) < ((f (k + 1) : Nat) : Int)) = True := eq_true (by omega)
      (repeat (first | ((first | (refine And.intro ?_ ?_; focus exact PLA) | refine WA_seq (WA_region ?_) | refine WA_region ?_ | refine WA_exit ?_); try simp (maxSteps := 1000000) (disch := first | omega | rfl | decide | (simp only [List.length_cons, List.length_nil, List.length_append, LV] <;> omega)) only [go_sem, Nat.reduceAdd, Int.reduceAdd, Int.reduceSub, Int.reduceMul, Bool.not_true, Bool.not_false, hb, gt_iff_lt, e2, if_true]) | refine WA_seq ?_ | refine WA_block ?_ | (refine WA_skip ?_; try simp only [go_sem]) | (refine WA_ret ?_; try simp only [go_sem]) | refine WA_ct rfl ?_ | refine WA_cf rfl ?_))
      (refine Drop_slots (by first | exact Nat.le_refl _ | simp) ?_; focus ((try simp only [JL_same, JL_J, JL_nil, Int.reduceAdd, Nat.sub_sub, Int.natCast_add, Int.natCast_one, Int.natCast_zero, Int.cast_ofNat_Int, Nat.add_zero, Bool.false_eq_true, if_false, if_true, e]); (try exact JL_refl _)))
    · have e := bestP_f hx
      have e2 : (((f (bestP f k) : Nat) : Int) < ((f (k + 1) : Nat) : Int)) = False := eq_false (by omega)
      (repeat (first | ((first | (refine And.intro ?_ ?_; focus exact PLA) | refine WA_seq (WA_region ?_) | refine WA_region ?_ | refine WA_exit ?_); try simp (maxSteps := 1000000) (disch := first | omega | rfl | decide | (simp only [List.length_cons, List.length_nil, List.length_append, LV] <;> omega)) only [go_sem, Nat.reduceAdd, Int.reduceAdd, Int.reduceSub, Int.reduceMul, Bool.not_true, Bool.not_false, hb, gt_iff_lt, e2, if_false]) | refine WA_seq ?_ | refine WA_block ?_ | (refine WA_skip ?_; try simp only [go_sem]) | (refine WA_ret ?_; try simp only [go_sem]) | refine WA_ct rfl ?_ | refine WA_cf rfl ?_))
      (refine Drop_slots (by first | exact Nat.le_refl _ | simp) ?_; focus ((try simp only [JL_same, JL_J, JL_nil, Int.reduceAdd, Nat.sub_sub, Int.natCast_add, Int.natCast_one, Int.natCast_zero, Int.cast_ofNat_Int, Nat.add_zero, Bool.false_eq_true, if_false, if_true, e]); (try exact JL_refl _)))
  · (repeat (first | ((first | (refine And.intro ?_ ?_; focus exact PLA) | refine WA_seq (WA_region ?_) | refine WA_region ?_ | refine WA_exit ?_); try simp (maxSteps := 1000000) (disch := first | omega | rfl | decide | (simp only [List.length_cons, List.length_nil, List.length_append, LV] <;> omega)) only [go_sem, Nat.reduceAdd, Int.reduceAdd, Int.reduceSub, Int.reduceMul, Bool.not_true, Bool.not_false]) | refine WA_seq ?_ | refine WA_block ?_ | (refine WA_skip ?_; try simp only [go_sem]) | (refine WA_ret ?_; try simp only [go_sem]) | refine WA_ct rfl ?_ | refine WA_cf rfl ?_))
    ((first | refine ret_nA ?_ | refine ret_sA ?_ | refine ret_fA ?_); simp (maxSteps := 1000000) (disch := first | omega | rfl | decide | (simp only [List.length_cons, List.length_nil, List.length_append, LV] <;> omega)) only [go_sem, Nat.reduceAdd, Int.reduceAdd, Int.reduceSub, Int.reduceMul, Bool.not_true, Bool.not_false]; try rfl)

theorem indexI_ac {h : List Blk} {b n q : Nat} {f : Nat → Int} {r : Bool} {v : Int} (hb : h[b]? = some ⟨Is n f, r⟩) (hn : n ≤ 1000) (hq : q < n) (he : f q = v) (hne : ∀ i, i < q → f i ≠ v) : AC Try.prog 103 [sl b 0 n 1, .int .i64 v] h (.int .i64 q) h := by
  (refine AC_begin (fun _ _ => Try.call103 _ _) Try.func103 rfl Try.ntmps103 Try.results103 (fun hwf => ?_); simp only [List.length_cons, List.length_nil, Nat.reduceAdd, Nat.reduceSub, List.replicate, List.cons_append, List.nil_append])
  (repeat (first | ((first | (refine And.intro ?_ ?_; focus exact PLA) | refine WA_seq (WA_region ?_) | refine WA_region ?_ | refine WA_exit ?_); try simp (maxSteps := 1000000) (disch := first | omega | rfl | decide | (simp only [List.length_cons, List.length_nil, List.length_append, LV] <;> omega)) only [go_sem, Nat.reduceAdd, Int.reduceAdd, Int.reduceSub, Int.reduceMul, Bool.not_true, Bool.not_false]) | refine WA_seq ?_ | refine WA_block ?_ | (refine WA_skip ?_; try simp only [go_sem]) | (refine WA_ret ?_; try simp only [go_sem]) | refine WA_ct rfl ?_ | refine WA_cf rfl ?_))
  refine WA_forH (fun k => [(4, J), (5, J), (8, .int .i64 k), (9, J), (10, J), (11, J), (12, J), (13, J), (14, J), (15, J), (16, J), (17, J), (18, J)]) (fun k => h) (q) ?_ ?_ ?_ <;> (try simp only [patT_cons, patT_nil, patL_cons, patL_nil, list_set_zero, list_set_succ, blk_set_zero, blk_set_succ])
  · (refine Drop_slots (by first | exact Nat.le_refl _ | simp) ?_; focus ((try simp only [JL_same, JL_J, JL_nil, Int.reduceAdd, Nat.sub_sub, Int.natCast_add, Int.natCast_one, Int.natCast_zero, Int.cast_ofNat_Int, Nat.add_zero, Bool.false_eq_true, if_false, if_true]); (try exact JL_refl _)))
  · intro k hk
    have e : (v == f k) = false := by simpa using fun e => hne k hk e.symm
    (repeat (first | ((first | (refine And.intro ?_ ?_; focus exact PLA) | refine WA_seq (WA_region ?_) | refine WA_region ?_ | refine WA_exit ?_); try simp (maxSteps := 1000000) (disch := first | omega | rfl | decide | (simp only [List.length_cons, List.length_nil, List.length_append, LV] <;> omega)) only [go_sem, Nat.reduceAdd, Int.reduceAdd, Int.reduceSub, Int.reduceMul, Bool.not_true, Bool.not_false, hb, e]) | refine WA_seq ?_ | refine WA_block ?_ | (refine WA_skip ?_; try simp only [go_sem]) | (refine WA_ret ?_; try simp only [go_sem]) | refine WA_ct rfl ?_ | refine WA_cf rfl ?_))
    (refine Drop_slots (by first | exact Nat.le_refl _ | simp) ?_; focus ((try simp only [JL_same, JL_J, JL_nil, Int.reduceAdd, Nat.sub_sub, Int.natCast_add, Int.natCast_one, Int.natCast_zero, Int.cast_ofNat_Int, Nat.add_zero, Bool.false_eq_true, if_false, if_true]); (try exact JL_refl _)))
  · have e : (v == f q) = true := by simpa using he.symm
    (repeat (first | ((first | (refine And.intro ?_ ?_; focus exact PLA) | refine WA_seq (WA_region ?_) | refine WA_region ?_ | refine WA_exit ?_); try simp (maxSteps := 1000000) (disch := first | omega | rfl | decide | (simp only [List.length_cons, List.length_nil, List.length_append, LV] <;> omega)) only [go_sem, Nat.reduceAdd, Int.reduceAdd, Int.reduceSub, Int.reduceMul, Bool.not_true, Bool.not_false, hb, e]) | refine WA_seq ?_ | refine WA_block ?_ | (refine WA_skip ?_; try simp only [go_sem]) | (refine WA_ret ?_; try simp only [go_sem]) | refine WA_ct rfl ?_ | refine WA_cf rfl ?_))
    ((first | refine ret_nA ?_ | refine ret_sA ?_ | refine ret_fA ?_); simp (maxSteps := 1000000) (disch := first | omega | rfl | decide | (simp only [List.length_cons, List.length_nil, List.length_append, LV] <;> omega)) only [go_sem, Nat.reduceAdd, Int.reduceAdd, Int.reduceSub, Int.reduceMul, Bool.not_true, Bool.not_false]; try rfl)

/-- The best difference for each byte. -/
def bsF (bx d : Nat → UInt8) : Nat → UInt8 := fun i => UInt8.ofNat (bestP (difP bx (d i) 256) 255)
theorem bestS_ac {m : Nat} (h0 : 256 ≤ m) (h1 : m < 512) (r : Int) (bx mx : Nat → UInt8) {pl : Nat → UInt8} (hp : ∀ i, i < 16 → (pl i).toNat < 16) (d : Nat → UInt8) (last : Bool) (h : List Blk) :
    AC Try.prog 69 [.agg (Ci m bx mx pl r).toArray, .agg (Bs 16 d).toArray, .bool last] h (.agg (Bs 16 (layF m mx pl (bsF bx d) last)).toArray) h := by
  (refine AC_begin (fun _ _ => Try.call69 _ _) Try.func69 rfl Try.ntmps69 Try.results69 (fun hwf => ?_); simp only [List.length_cons, List.length_nil, Nat.reduceAdd, Nat.reduceSub, List.replicate, List.cons_append, List.nil_append])
  (repeat (first | ((first | (refine And.intro ?_ ?_; focus exact PLA) | refine WA_seq (WA_region ?_) | refine WA_region ?_ | refine WA_exit ?_); try simp (maxSteps := 1000000) (disch := first | omega | rfl | decide | (simp only [List.length_cons, List.length_nil, List.length_append, LV] <;> omega)) only [go_sem, Nat.reduceAdd, Int.reduceAdd, Int.reduceSub, Int.reduceMul, Bool.not_true, Bool.not_false]) | refine WA_seq ?_ | refine WA_block ?_ | (refine WA_skip ?_; try simp only [go_sem]) | (refine WA_ret ?_; try simp only [go_sem]) | refine WA_ct rfl ?_ | refine WA_cf rfl ?_))
  refine WA_forP (fun k => [(8, .int .i64 k), (9, J), (10, J), (11, J), (13, J), (14, J), (15, J), (16, J), (17, J), (18, J), (19, J), (20, J), (21, J), (22, J), (23, J), (24, J), (25, J), (26, J), (27, J), (28, J), (29, J), (30, J), (31, J), (32, J), (33, J), (34, J), (35, J), (36, J), (37, J), (38, J), (39, J), (40, J)]) (fun k => [(3, ⟨Bs 16 (pre k (bsF bx d) fun _ => 0), true⟩)]) (16) ?_ ?_ ?_ <;> (try simp only [patT_cons, patT_nil, patL_cons, patL_nil, list_set_zero, list_set_succ, blk_set_zero, blk_set_succ])
  · rw [pre_zero]
    (refine Drop_slots (by first | exact Nat.le_refl _ | simp) ?_; focus ((try simp only [JL_same, JL_J, JL_nil, Int.reduceAdd, Nat.sub_sub, Int.natCast_add, Int.natCast_one, Int.natCast_zero, Int.cast_ofNat_Int, Nat.add_zero, Bool.false_eq_true, if_false, if_true]); (try exact JL_refl _)))
  · intro j hj
    (repeat (first | ((first | (refine And.intro ?_ ?_; focus exact PLA) | ((first | with_reducible apply callB_i | with_reducible apply callK_intro | with_reducible apply callQ_i); (focus (first | assumption | (with_reducible apply difS_ac <;> (first | assumption | rfl | (simp (disch := omega) only [go_sem]; first | done | rfl) | omega | decide | (simp; done))))); (try exact WP_au)) | refine WA_seq (WA_region ?_) | refine WA_region ?_ | refine WA_exit ?_); try simp (maxSteps := 1000000) (disch := first | omega | rfl | decide | (simp only [List.length_cons, List.length_nil, List.length_append, LV] <;> omega)) only [go_sem, Nat.reduceAdd, Int.reduceAdd, Int.reduceSub, Int.reduceMul, Bool.not_true, Bool.not_false]) | (refine (WA_rb (id := 5) [5] (SubM.refl _) mixedOk ?_); simp only [List.size_toArray, List.length_cons, List.length_nil]; (repeat (first | ((first | (refine And.intro ?_ ?_; focus exact PLA) | ((first | with_reducible apply callB_i | with_reducible apply callK_intro | with_reducible apply callQ_i); (focus (first | assumption | (with_reducible apply difS_ac <;> (first | assumption | rfl | (simp (disch := omega) only [go_sem]; first | done | rfl) | omega | decide | (simp; done))))); (try exact WP_au)) | refine RB_take false [0, 2, 3] 5 (by rfl) (by kernel_rfl) (by decide) (by decide +kernel) ?_ | refine RB_take true [1, 4] 3 (by rfl) (by kernel_rfl) (by decide) (by decide +kernel) ?_ | refine RB_exec 5 _ (by rfl) (by decide +kernel) (by decide +kernel) ?_ | refine RB_take false [6, 7] 0 (by rfl) (by kernel_rfl) (by decide) (by decide +kernel) ?_ | refine RB_done (by decide +kernel) ?_); try simp (maxSteps := 1000000) (disch := first | omega | rfl | decide | (simp only [List.length_cons, List.length_nil, List.length_append, LV] <;> omega)) only [go_sem, Nat.reduceAdd, Int.reduceAdd, Int.reduceSub, Int.reduceMul, Bool.not_true, Bool.not_false])))) | refine WA_seq ?_ | refine WA_block ?_ | (refine WA_skip ?_; try simp only [go_sem]) | (refine WA_ret ?_; try simp only [go_sem]) | refine WA_ct rfl ?_ | refine WA_cf rfl ?_))
    generalize hf : difP bx (d j) 256 = f
    have hfi : difI bx (d j) 256 = fun y => ((f y : Nat) : Int) := by rw [← hf]; rfl
    rw [hfi]
    refine WA_forP (fun k => [(10, .int .i64 ((bestP f k : Nat) : Int)), (11, .int .i64 ((k + 1 : Nat) : Int)), (23, J), (24, J), (25, J), (26, J), (27, J), (28, J), (29, J), (30, J), (31, J), (32, J), (33, J), (34, J), (35, J), (36, J)]) (fun k => []) (255) ?_ ?_ ?_ <;> (try simp only [patT_cons, patT_nil, patL_cons, patL_nil, list_set_zero, list_set_succ, blk_set_zero, blk_set_succ])
    · (refine Drop_slots (by first | exact Nat.le_refl _ | simp) ?_; focus ((try simp only [JL_same, JL_J, JL_nil, Int.reduceAdd, Nat.sub_sub, Int.natCast_add, Int.natCast_one, Int.natCast_zero, Int.cast_ofNat_Int, Nat.add_zero, Bool.false_eq_true, if_false, if_true, bestP]); (try exact JL_refl _)))
    · intro k hk
      have hle := bestP_le f k
      by_cases hx : f (bestP f k) < f (k + 1)
      · have e := bestP_t hx
        (repeat (first | ((first | (refine And.intro ?_ ?_; focus exact PLA) | refine WA_seq (WA_region ?_) | refine WA_region ?_ | refine WA_exit ?_); try simp (maxSteps := 1000000) (disch := first | omega | rfl | decide | (simp only [List.length_cons, List.length_nil, List.length_append, LV] <;> omega)) only [go_sem, Nat.reduceAdd, Int.reduceAdd, Int.reduceSub, Int.reduceMul, Bool.not_true, Bool.not_false]) | (refine WA_seq (WA_draw (id := 9) mixedOk (by kernel_rfl) ?_); simp (maxSteps := 1000000) (disch := first | omega | rfl | decide | (simp only [List.length_cons, List.length_nil, List.length_append, LV] <;> omega)) only [go_sem, Nat.reduceAdd, Int.reduceAdd, Int.reduceSub, Int.reduceMul, Bool.not_true, Bool.not_false]) | (refine WA_draw (id := 9) mixedOk (by kernel_rfl) ?_; simp (maxSteps := 1000000) (disch := first | omega | rfl | decide | (simp only [List.length_cons, List.length_nil, List.length_append, LV] <;> omega)) only [go_sem, Nat.reduceAdd, Int.reduceAdd, Int.reduceSub, Int.reduceMul, Bool.not_true, Bool.not_false]) | refine WA_seq ?_ | refine WA_block ?_ | (refine WA_skip ?_; try simp only [go_sem]) | (refine WA_ret ?_; try simp only [go_sem]) | refine WA_ct rfl ?_ | refine WA_cf rfl ?_))
        (refine Drop_slots (by first | exact Nat.le_refl _ | simp) ?_; focus ((try simp only [JL_same, JL_J, JL_nil, Int.reduceAdd, Nat.sub_sub, Int.natCast_add, Int.natCast_one, Int.natCast_zero, Int.cast_ofNat_Int, Nat.add_zero, Bool.false_eq_true, if_false, if_true, e]); (try exact JL_refl _)))
      · have e := bestP_f hx
        (repeat (first | ((first | (refine And.intro ?_ ?_; focus exact PLA) | refine WA_seq (WA_region ?_) | refine WA_region ?_ | refine WA_exit ?_); try simp (maxSteps := 1000000) (disch := first | omega | rfl | decide | (simp only [List.length_cons, List.length_nil, List.length_append, LV] <;> omega)) only [go_sem, Nat.reduceAdd, Int.reduceAdd, Int.reduceSub, Int.reduceMul, Bool.not_true, Bool.not_false]) | (refine WA_seq (WA_draw (id := 9) mixedOk (by kernel_rfl) ?_); simp (maxSteps := 1000000) (disch := first | omega | rfl | decide | (simp only [List.length_cons, List.length_nil, List.length_append, LV] <;> omega)) only [go_sem, Nat.reduceAdd, Int.reduceAdd, Int.reduceSub, Int.reduceMul, Bool.not_true, Bool.not_false]) | (refine WA_draw (id := 9) mixedOk (by kernel_rfl) ?_; simp (maxSteps := 1000000) (disch := first | omega | rfl | decide | (simp only [List.length_cons, List.length_nil, List.length_append, LV] <;> omega)) only [go_sem, Nat.reduceAdd, Int.reduceAdd, Int.reduceSub, Int.reduceMul, Bool.not_true, Bool.not_false]) | refine WA_seq ?_ | refine WA_block ?_ | (refine WA_skip ?_; try simp only [go_sem]) | (refine WA_ret ?_; try simp only [go_sem]) | refine WA_ct rfl ?_ | refine WA_cf rfl ?_))
        (refine Drop_slots (by first | exact Nat.le_refl _ | simp) ?_; focus ((try simp only [JL_same, JL_J, JL_nil, Int.reduceAdd, Nat.sub_sub, Int.natCast_add, Int.natCast_one, Int.natCast_zero, Int.cast_ofNat_Int, Nat.add_zero, Bool.false_eq_true, if_false, if_true, e]); (try exact JL_refl _)))
    · have hbs : UInt8.ofNat (bestP f 255) = bsF bx d j := by rw [← hf]; rfl
      (repeat (first | ((first | (refine And.intro ?_ ?_; focus exact PLA) | refine WA_seq (WA_region ?_) | refine WA_region ?_ | refine WA_exit ?_); try simp (maxSteps := 1000000) (disch := first | omega | rfl | decide | (simp only [List.length_cons, List.length_nil, List.length_append, LV] <;> omega)) only [go_sem, Nat.reduceAdd, Int.reduceAdd, Int.reduceSub, Int.reduceMul, Bool.not_true, Bool.not_false, hbs, upd_pre]) | refine WA_seq ?_ | refine WA_block ?_ | (refine WA_skip ?_; try simp only [go_sem]) | (refine WA_ret ?_; try simp only [go_sem]) | refine WA_ct rfl ?_ | refine WA_cf rfl ?_))
      (refine Drop_gc [0, 1, 2, 3] (by first | exact Nat.le_refl _ | first | assumption | omega | (simp only [List.length_append, List.length_cons, List.length_nil, List.length_replicate]; omega)) (by assumption) (by decide) ?_ ?_; (focus (repeat (first | exact trivial | (refine And.intro ⟨_, rfl, ?_⟩ ?_; (focus first | (refine Fit_plain ?_; simp only [go_sem, List.all_append, List.all_cons, List.all_nil, Bool.and_self]; done) | exact Fit_nil rfl | exact Fit_dead | (refine Fit_eq ?_ ?_; (focus simp only [go_sem, List.all_append, List.all_cons, List.all_nil, Bool.and_self]); (focus (first | rfl | (simp only [Int.natCast_add, Int.natCast_one, Int.natCast_zero, Int.cast_ofNat_Int, Nat.add_zero]; done) | (simp only [Int.natCast_add, Int.natCast_one, Int.natCast_zero, Int.cast_ofNat_Int, Nat.add_zero]; rfl))))))))); (focus (repeat (first | exact JR_nil | refine JR_J ?_ | (refine JR_plain ?_ ?_; (focus first | rfl | (refine plain_agg ?_; simp only [go_sem, List.all_append, List.all_cons, List.all_nil, Bool.and_self]; done))) | ((first | refine JR_pt ?_ ?_ ?_ | refine JR_sl ?_ ?_ ?_); (focus first | (rw [rhoF_new0]; rfl) | (rw [rhoF_new]; rfl) | (rw [rhoF_old]; first | assumption | omega)); (focus first | assumption | omega | (simp only [List.length_append, List.length_cons, List.length_nil, List.length_replicate]; omega))) | (refine JR_plain' ?_ ?_ ?_; (focus first | rfl | (refine plain_agg ?_; simp only [go_sem, List.all_append, List.all_cons, List.all_nil, Bool.and_self]; done)); (focus (first | rfl | (simp only [Int.natCast_add, Int.natCast_one, Int.natCast_zero, Int.cast_ofNat_Int, Nat.add_zero]; done) | (simp only [Int.natCast_add, Int.natCast_one, Int.natCast_zero, Int.cast_ofNat_Int, Nat.add_zero]; rfl)))) | (refine JR_sl' ?_ ?_ ?_ ?_; (focus first | (rw [rhoF_new0]; rfl) | (rw [rhoF_new]; rfl) | (rw [rhoF_old]; first | assumption | omega)); (focus first | assumption | omega | (simp only [List.length_append, List.length_cons, List.length_nil, List.length_replicate]; omega)); (focus first | rfl | omega | (first | rfl | (simp only [Int.natCast_add, Int.natCast_one, Int.natCast_zero, Int.cast_ofNat_Int, Nat.add_zero]; done) | (simp only [Int.natCast_add, Int.natCast_one, Int.natCast_zero, Int.cast_ofNat_Int, Nat.add_zero]; rfl))))))))
  · (repeat (first | ((first | (refine And.intro ?_ ?_; focus exact PLA) | ((first | with_reducible apply callB_i | with_reducible apply callK_intro | with_reducible apply callQ_i); (focus (first | assumption | (with_reducible apply layS_ac h0 h1 _ _ _ hp <;> (first | assumption | rfl | (simp (disch := omega) only [go_sem]; first | done | rfl) | omega | decide | (simp; done))))); (try exact WP_au)) | refine WA_seq (WA_region ?_) | refine WA_region ?_ | refine WA_exit ?_); try simp (maxSteps := 1000000) (disch := first | omega | rfl | decide | (simp only [List.length_cons, List.length_nil, List.length_append, LV] <;> omega)) only [go_sem, Nat.reduceAdd, Int.reduceAdd, Int.reduceSub, Int.reduceMul, Bool.not_true, Bool.not_false, Bs_pre]) | refine WA_seq ?_ | refine WA_block ?_ | (refine WA_skip ?_; try simp only [go_sem]) | (refine WA_ret ?_; try simp only [go_sem]) | refine WA_ct rfl ?_ | refine WA_cf rfl ?_))
    ((first | refine ret_nA ?_ | refine ret_sA ?_ | refine ret_fA ?_); simp (maxSteps := 1000000) (disch := first | omega | rfl | decide | (simp only [List.length_cons, List.length_nil, List.length_append, LV] <;> omega)) only [go_sem, Nat.reduceAdd, Int.reduceAdd, Int.reduceSub, Int.reduceMul, Bool.not_true, Bool.not_false]; try rfl)

theorem bestI_ac {m : Nat} {h : List Blk} {be bt : Nat} {bx ib pl ip mx : Nat → UInt8} {v5 : Value} {r : Int} {re rt : Bool} (he : h[be]? = some ⟨En bx ib pl ip (pt bt 0) v5 r, re⟩) (ht : h[bt]? = some ⟨Bs 4096 (mixT m mx), rt⟩)
    (hp : ∀ i, i < 16 → (pl i).toNat < 16) (d : Nat → UInt8) (last : Bool) :
    AC Try.prog 68 [pt be 0, .agg (Bs 16 d).toArray, .bool last] h (.agg (Bs 16 (layF m mx pl (bsF bx d) last)).toArray) h := by
  have hbe := blt he
  have hbt := blt ht
  (refine AC_begin (fun _ _ => Try.call68 _ _) Try.func68 rfl Try.ntmps68 Try.results68 (fun hwf => ?_); simp only [List.length_cons, List.length_nil, Nat.reduceAdd, Nat.reduceSub, List.replicate, List.cons_append, List.nil_append])
  (repeat (first | ((first | (refine And.intro ?_ ?_; focus exact PLA) | refine WA_seq (WA_region ?_) | refine WA_region ?_ | refine WA_exit ?_); try simp (maxSteps := 1000000) (disch := first | omega | rfl | decide | (simp only [List.length_cons, List.length_nil, List.length_append, LV] <;> omega)) only [go_sem, Nat.reduceAdd, Int.reduceAdd, Int.reduceSub, Int.reduceMul, Bool.not_true, Bool.not_false]) | refine WA_seq ?_ | refine WA_block ?_ | (refine WA_skip ?_; try simp only [go_sem]) | (refine WA_ret ?_; try simp only [go_sem]) | refine WA_ct rfl ?_ | refine WA_cf rfl ?_))
  refine WA_forP (fun k => [(8, J), (9, J), (11, .int .i64 k), (12, J), (13, J), (14, J), (15, J), (16, J), (17, J), (18, J), (19, J), (20, J), (21, J), (22, J), (23, J), (24, J), (25, J), (26, J), (27, J), (28, J), (29, J)]) (fun k => [(2, ⟨Bs 16 (pre k (bsF bx d) fun _ => 0), true⟩)]) (16) ?_ ?_ ?_ <;> (try simp only [patT_cons, patT_nil, patL_cons, patL_nil, list_set_zero, list_set_succ, blk_set_zero, blk_set_succ])
  · rw [pre_zero]
    (refine Drop_slots (by first | exact Nat.le_refl _ | simp) ?_; focus ((try simp only [JL_same, JL_J, JL_nil, Int.reduceAdd, Nat.sub_sub, Int.natCast_add, Int.natCast_one, Int.natCast_zero, Int.cast_ofNat_Int, Nat.add_zero, Bool.false_eq_true, if_false, if_true]); (try exact JL_refl _)))
  · intro j hj
    have hbs : UInt8.ofNat (bestP (difP bx (d j) 256) 255) = bsF bx d j := rfl
    have hmx : ∀ {h : List Blk} {b : Nat} {r : Bool}, h[b]? = some ⟨Is 256 (difI bx (d j) 256), r⟩ → AC Try.prog 104 [sl b 0 256 1] h (.int .i64 ((difP bx (d j) 256 (bestP (difP bx (d j) 256) 255) : Nat) : Int)) h := fun hb => maxI_ac (f := difP bx (d j) 256) hb
    have hix : ∀ {h : List Blk} {b : Nat} {r : Bool}, h[b]? = some ⟨Is 256 (difI bx (d j) 256), r⟩ → AC Try.prog 103 [sl b 0 256 1, .int .i64 ((difP bx (d j) 256 (bestP (difP bx (d j) 256) 255) : Nat) : Int)] h (.int .i64 ((bestP (difP bx (d j) 256) 255 : Nat) : Int)) h := fun hb =>
      indexI_ac hb (by omega) (Nat.lt_of_le_of_lt (bestP_le _ 255) (by omega)) rfl (fun i hi e => bestP_first (difP bx (d j) 256) 255 i hi (Int.ofNat.inj e))
    (repeat (first | ((first | (refine And.intro ?_ ?_; focus exact PLA) | ((first | with_reducible apply callB_i | with_reducible apply callK_intro | with_reducible apply callQ_i); (focus (first | assumption | (with_reducible apply difJ_ac <;> (first | assumption | rfl | (simp (disch := omega) only [go_sem]; first | done | rfl) | omega | decide | (simp; done))) | ((first | with_reducible apply hmx | with_reducible apply hix) <;> (first | assumption | (refine look_old ?_ _; assumption) | rfl | (simp (disch := omega) only [go_sem]; first | done | rfl) | omega | decide | (simp; done))))); (try exact WP_au)) | refine WA_seq (WA_region ?_) | refine WA_region ?_ | refine WA_exit ?_); try simp (maxSteps := 1000000) (disch := first | omega | rfl | decide | (simp only [List.length_cons, List.length_nil, List.length_append, LV] <;> omega)) only [go_sem, Nat.reduceAdd, Int.reduceAdd, Int.reduceSub, Int.reduceMul, Bool.not_true, Bool.not_false, look_old he, hbs, upd_pre]) | (refine (WA_rb (id := 5) [7] (SubM.refl _) mixedOk ?_); simp only [List.size_toArray, List.length_cons, List.length_nil]; (repeat (first | ((first | (refine And.intro ?_ ?_; focus exact PLA) | ((first | with_reducible apply callB_i | with_reducible apply callK_intro | with_reducible apply callQ_i); (focus (first | assumption | (with_reducible apply difJ_ac <;> (first | assumption | rfl | (simp (disch := omega) only [go_sem]; first | done | rfl) | omega | decide | (simp; done))) | ((first | with_reducible apply hmx | with_reducible apply hix) <;> (first | assumption | (refine look_old ?_ _; assumption) | rfl | (simp (disch := omega) only [go_sem]; first | done | rfl) | omega | decide | (simp; done))))); (try exact WP_au)) | refine RB_take false [0, 1, 2, 4, 5] 4 (by rfl) (by kernel_rfl) (by decide) (by decide +kernel) ?_ | refine RB_take true [3, 6] 2 (by rfl) (by kernel_rfl) (by decide) (by decide +kernel) ?_ | refine RB_exec 7 _ (by rfl) (by decide +kernel) (by decide +kernel) ?_ | refine RB_take false [8] 0 (by rfl) (by kernel_rfl) (by decide) (by decide +kernel) ?_ | refine RB_done (by decide +kernel) ?_); try simp (maxSteps := 1000000) (disch := first | omega | rfl | decide | (simp only [List.length_cons, List.length_nil, List.length_append, LV] <;> omega)) only [go_sem, Nat.reduceAdd, Int.reduceAdd, Int.reduceSub, Int.reduceMul, Bool.not_true, Bool.not_false, look_old he, hbs, upd_pre])))) | refine WA_seq ?_ | refine WA_block ?_ | (refine WA_skip ?_; try simp only [go_sem]) | (refine WA_ret ?_; try simp only [go_sem]) | refine WA_ct rfl ?_ | refine WA_cf rfl ?_))
    (refine Drop_gc [0, 1, 2] (by first | exact Nat.le_refl _ | first | assumption | omega | (simp only [List.length_append, List.length_cons, List.length_nil, List.length_replicate]; omega)) (by assumption) (by decide) ?_ ?_; (focus (repeat (first | exact trivial | (refine And.intro ⟨_, rfl, ?_⟩ ?_; (focus first | (refine Fit_plain ?_; simp only [go_sem, List.all_append, List.all_cons, List.all_nil, Bool.and_self]; done) | exact Fit_nil rfl | exact Fit_dead | (refine Fit_eq ?_ ?_; (focus simp only [go_sem, List.all_append, List.all_cons, List.all_nil, Bool.and_self]); (focus (first | rfl | (simp only [Int.natCast_add, Int.natCast_one, Int.natCast_zero, Int.cast_ofNat_Int, Nat.add_zero]; done) | (simp only [Int.natCast_add, Int.natCast_one, Int.natCast_zero, Int.cast_ofNat_Int, Nat.add_zero]; rfl))))))))); (focus (repeat (first | exact JR_nil | refine JR_J ?_ | (refine JR_plain ?_ ?_; (focus first | rfl | (refine plain_agg ?_; simp only [go_sem, List.all_append, List.all_cons, List.all_nil, Bool.and_self]; done))) | ((first | refine JR_pt ?_ ?_ ?_ | refine JR_sl ?_ ?_ ?_); (focus first | (rw [rhoF_new0]; rfl) | (rw [rhoF_new]; rfl) | (rw [rhoF_old]; first | assumption | omega)); (focus first | assumption | omega | (simp only [List.length_append, List.length_cons, List.length_nil, List.length_replicate]; omega))) | (refine JR_plain' ?_ ?_ ?_; (focus first | rfl | (refine plain_agg ?_; simp only [go_sem, List.all_append, List.all_cons, List.all_nil, Bool.and_self]; done)); (focus (first | rfl | (simp only [Int.natCast_add, Int.natCast_one, Int.natCast_zero, Int.cast_ofNat_Int, Nat.add_zero]; done) | (simp only [Int.natCast_add, Int.natCast_one, Int.natCast_zero, Int.cast_ofNat_Int, Nat.add_zero]; rfl)))) | (refine JR_sl' ?_ ?_ ?_ ?_; (focus first | (rw [rhoF_new0]; rfl) | (rw [rhoF_new]; rfl) | (rw [rhoF_old]; first | assumption | omega)); (focus first | assumption | omega | (simp only [List.length_append, List.length_cons, List.length_nil, List.length_replicate]; omega)); (focus first | rfl | omega | (first | rfl | (simp only [Int.natCast_add, Int.natCast_one, Int.natCast_zero, Int.cast_ofNat_Int, Nat.add_zero]; done) | (simp only [Int.natCast_add, Int.natCast_one, Int.natCast_zero, Int.cast_ofNat_Int, Nat.add_zero]; rfl))))))))
  · (repeat (first | ((first | (refine And.intro ?_ ?_; focus exact PLA) | ((first | with_reducible apply callB_i | with_reducible apply callK_intro | with_reducible apply callQ_i); (focus (first | assumption | (with_reducible apply layI_ac <;> (first | assumption | (refine look_old ?_ _; assumption) | rfl | (simp (disch := omega) only [go_sem]; first | done | rfl) | omega | decide | (simp; done))))); (try exact WP_au)) | refine WA_seq (WA_region ?_) | refine WA_region ?_ | refine WA_exit ?_); try simp (maxSteps := 1000000) (disch := first | omega | rfl | decide | (simp only [List.length_cons, List.length_nil, List.length_append, LV] <;> omega)) only [go_sem, Nat.reduceAdd, Int.reduceAdd, Int.reduceSub, Int.reduceMul, Bool.not_true, Bool.not_false, Bs_pre]) | refine WA_seq ?_ | refine WA_block ?_ | (refine WA_skip ?_; try simp only [go_sem]) | (refine WA_ret ?_; try simp only [go_sem]) | refine WA_ct rfl ?_ | refine WA_cf rfl ?_))
    ((first | refine ret_nA ?_ | refine ret_sA ?_ | refine ret_fA ?_); simp (maxSteps := 1000000) (disch := first | omega | rfl | decide | (simp only [List.length_cons, List.length_nil, List.length_append, LV] <;> omega)) only [go_sem, Nat.reduceAdd, Int.reduceAdd, Int.reduceSub, Int.reduceMul, Bool.not_true, Bool.not_false]; try rfl)

theorem bestOS_ac (m r : Int) (bx mx pl d : Nat → UInt8) (last : Bool) (h : List Blk) :
    AC Try.prog 33 [.agg (Ci m bx mx pl r).toArray, .agg (Bs 16 d).toArray, .bool last] h (.tuple #[.agg (Bs 16 (cond (cipB m bx mx pl r) (layF m.toNat mx pl (bsF bx d) last) zeroF)).toArray, .int .i64 (cipC m bx mx pl r)]) h := by
  cases hc : cipB m bx mx pl r
  · (refine AC_begin (fun _ _ => Try.call33 _ _) Try.func33 rfl Try.ntmps33 Try.results33 (fun hwf => ?_); simp only [List.length_cons, List.length_nil, Nat.reduceAdd, Nat.reduceSub, List.replicate, List.cons_append, List.nil_append])
    (repeat (first | ((first | (refine And.intro ?_ ?_; focus exact PLA) | ((first | with_reducible apply callB_i | with_reducible apply callK_intro | with_reducible apply callQ_i); (focus (first | assumption | (with_reducible apply cipS_ac <;> (first | assumption | rfl | (simp (disch := omega) only [go_sem]; first | done | rfl) | omega | decide | (simp; done))))); (try exact WP_au)) | refine WA_seq (WA_region ?_) | refine WA_region ?_ | refine WA_exit ?_); try simp (maxSteps := 1000000) (disch := first | omega | rfl | decide | (simp only [List.length_cons, List.length_nil, List.length_append, LV] <;> omega)) only [go_sem, Nat.reduceAdd, Int.reduceAdd, Int.reduceSub, Int.reduceMul, Bool.not_true, Bool.not_false, hc, Bool.not_false]) | refine WA_seq ?_ | refine WA_block ?_ | (refine WA_skip ?_; try simp only [go_sem]) | (refine WA_ret ?_; try simp only [go_sem]) | refine WA_ct rfl ?_ | refine WA_cf rfl ?_))
    ((first | refine ret_nA ?_ | refine ret_sA ?_ | refine ret_fA ?_); simp (maxSteps := 1000000) (disch := first | omega | rfl | decide | (simp only [List.length_cons, List.length_nil, List.length_append, LV] <;> omega)) only [go_sem, Nat.reduceAdd, Int.reduceAdd, Int.reduceSub, Int.reduceMul, Bool.not_true, Bool.not_false, cipC, hc, cond_false, zeroF]; try rfl)
  · obtain ⟨k, rfl, h0, h1, _, _, hp, n, rfl, _, _⟩ := cipB_nat hc
    have hp' : ∀ i, i < 16 → (pl i).toNat < 16 := fun i hi => plOk_lt hp hi
    (refine AC_begin (fun _ _ => Try.call33 _ _) Try.func33 rfl Try.ntmps33 Try.results33 (fun hwf => ?_); simp only [List.length_cons, List.length_nil, Nat.reduceAdd, Nat.reduceSub, List.replicate, List.cons_append, List.nil_append])
    (repeat (first | ((first | (refine And.intro ?_ ?_; focus exact PLA) | ((first | with_reducible apply callB_i | with_reducible apply callK_intro | with_reducible apply callQ_i); (focus (first | assumption | ((first | with_reducible apply cipS_ac | with_reducible apply bestS_ac h0 h1 _ _ _ hp') <;> (first | assumption | rfl | (simp (disch := omega) only [go_sem]; first | done | rfl) | omega | decide | (simp; done))))); (try exact WP_au)) | refine WA_seq (WA_region ?_) | refine WA_region ?_ | refine WA_exit ?_); try simp (maxSteps := 1000000) (disch := first | omega | rfl | decide | (simp only [List.length_cons, List.length_nil, List.length_append, LV] <;> omega)) only [go_sem, Nat.reduceAdd, Int.reduceAdd, Int.reduceSub, Int.reduceMul, Bool.not_true, Bool.not_false, hc, Bool.not_true]) | refine WA_seq ?_ | refine WA_block ?_ | (refine WA_skip ?_; try simp only [go_sem]) | (refine WA_ret ?_; try simp only [go_sem]) | refine WA_ct rfl ?_ | refine WA_cf rfl ?_))
    ((first | refine ret_nA ?_ | refine ret_sA ?_ | refine ret_fA ?_); simp (maxSteps := 1000000) (disch := first | omega | rfl | decide | (simp only [List.length_cons, List.length_nil, List.length_append, LV] <;> omega)) only [go_sem, Nat.reduceAdd, Int.reduceAdd, Int.reduceSub, Int.reduceMul, Bool.not_true, Bool.not_false, cipC, hc, cond_true, Int.toNat_natCast]; try rfl)

theorem bestOI_ac (m r : Int) (bx mx pl d : Nat → UInt8) (last : Bool) (h : List Blk) :
    AC Try.prog 32 [.agg (Ci m bx mx pl r).toArray, .agg (Bs 16 d).toArray, .bool last] h (.tuple #[.agg (Bs 16 (cond (cipB m bx mx pl r) (layF m.toNat mx pl (bsF bx d) last) zeroF)).toArray, .int .i64 (cipC m bx mx pl r)]) h := by
  cases hc : cipB m bx mx pl r
  · (refine AC_begin (fun _ _ => Try.call32 _ _) Try.func32 rfl Try.ntmps32 Try.results32 (fun hwf => ?_); simp only [List.length_cons, List.length_nil, Nat.reduceAdd, Nat.reduceSub, List.replicate, List.cons_append, List.nil_append])
    (repeat (first | ((first | (refine And.intro ?_ ?_; focus exact PLA) | ((first | with_reducible apply callB_i | with_reducible apply callK_intro | with_reducible apply callQ_i); (focus (first | assumption | (with_reducible apply cipI_ac <;> (first | assumption | rfl | (simp (disch := omega) only [go_sem]; first | done | rfl) | omega | decide | (simp; done))))); (try exact WP_au)) | refine WA_seq (WA_region ?_) | refine WA_region ?_ | refine WA_exit ?_); try simp (maxSteps := 1000000) (disch := first | omega | rfl | decide | (simp only [List.length_cons, List.length_nil, List.length_append, LV] <;> omega)) only [go_sem, Nat.reduceAdd, Int.reduceAdd, Int.reduceSub, Int.reduceMul, Bool.not_true, Bool.not_false, hc, Bool.not_false]) | refine WA_seq ?_ | refine WA_block ?_ | (refine WA_skip ?_; try simp only [go_sem]) | (refine WA_ret ?_; try simp only [go_sem]) | refine WA_ct rfl ?_ | refine WA_cf rfl ?_))
    ((first | refine ret_nA ?_ | refine ret_sA ?_ | refine ret_fA ?_); simp (maxSteps := 1000000) (disch := first | omega | rfl | decide | (simp only [List.length_cons, List.length_nil, List.length_append, LV] <;> omega)) only [go_sem, Nat.reduceAdd, Int.reduceAdd, Int.reduceSub, Int.reduceMul, Bool.not_true, Bool.not_false, cipC, hc, cond_false, zeroF]; try rfl)
  · obtain ⟨k, rfl, h0, h1, _, _, hp, n, rfl, _, _⟩ := cipB_nat hc
    have hp' : ∀ i, i < 16 → (pl i).toNat < 16 := fun i hi => plOk_lt hp hi
    (refine AC_begin (fun _ _ => Try.call32 _ _) Try.func32 rfl Try.ntmps32 Try.results32 (fun hwf => ?_); simp only [List.length_cons, List.length_nil, Nat.reduceAdd, Nat.reduceSub, List.replicate, List.cons_append, List.nil_append])
    (repeat (first | ((first | (refine And.intro ?_ ?_; focus exact PLA) | ((first | with_reducible apply callB_i | with_reducible apply callK_intro | with_reducible apply callQ_i); (focus (first | assumption | ((first | with_reducible apply cipI_ac | with_reducible apply newEngine_ac h0 h1 _ _ hp | with_reducible apply bestI_ac) <;> (first | assumption | rfl | (simp (disch := omega) only [go_sem]; first | done | rfl) | omega | decide | (simp; done))))); (try exact WP_au)) | refine WA_seq (WA_region ?_) | refine WA_region ?_ | refine WA_exit ?_); try simp (maxSteps := 1000000) (disch := first | omega | rfl | decide | (simp only [List.length_cons, List.length_nil, List.length_append, LV] <;> omega)) only [go_sem, Nat.reduceAdd, Int.reduceAdd, Int.reduceSub, Int.reduceMul, Bool.not_true, Bool.not_false, hc, Bool.not_true]) | (refine (WA_rb (id := 3) [4, 5] (SubM.refl _) mixedOk ?_); simp only [List.size_toArray, List.length_cons, List.length_nil]; (repeat (first | ((first | (refine And.intro ?_ ?_; focus exact PLA) | ((first | with_reducible apply callB_i | with_reducible apply callK_intro | with_reducible apply callQ_i | with_reducible apply callC_i); (focus (first | assumption | ((first | with_reducible apply cipI_ac | with_reducible apply newEngine_ac h0 h1 _ _ hp | with_reducible apply bestI_ac) <;> (first | assumption | rfl | (simp (disch := omega) only [go_sem]; first | done | rfl) | omega | decide | (simp; done))))); (try (focus (exact NL.mk rfl))); (try exact WP_au)) | refine RB_take false [3] 6 (by rfl) (by kernel_rfl) (by decide) (by decide +kernel) ?_ | refine RB_take true [0, 2] 4 (by rfl) (by kernel_rfl) (by decide) (by decide +kernel) ?_ | refine RB_keepC 1 _ (by rfl) (by decide +kernel) ?_ | refine RB_exec 4 _ (by rfl) (by decide +kernel) (by decide +kernel) ?_ | refine RB_exec 5 _ (by rfl) (by decide +kernel) (by decide +kernel) ?_ | refine RB_take false [6] 0 (by rfl) (by kernel_rfl) (by decide) (by decide +kernel) ?_ | refine RB_done (by decide +kernel) ?_); try simp (maxSteps := 1000000) (disch := first | omega | rfl | decide | (simp only [List.length_cons, List.length_nil, List.length_append, LV] <;> omega)) only [go_sem, Nat.reduceAdd, Int.reduceAdd, Int.reduceSub, Int.reduceMul, Bool.not_true, Bool.not_false, hc, Bool.not_true])))) | refine WA_seq ?_ | refine WA_block ?_ | (refine WA_skip ?_; try simp only [go_sem]) | (refine WA_ret ?_; try simp only [go_sem]) | refine WA_ct rfl ?_ | refine WA_cf rfl ?_))
    ((first | refine ret_nA ?_ | refine ret_sA ?_ | refine ret_fA ?_); simp (maxSteps := 1000000) (disch := first | omega | rfl | decide | (simp only [List.length_cons, List.length_nil, List.length_append, LV] <;> omega)) only [go_sem, Nat.reduceAdd, Int.reduceAdd, Int.reduceSub, Int.reduceMul, Bool.not_true, Bool.not_false, cipC, hc, cond_true, Int.toNat_natCast]; try rfl)

end Go.Proofs.Ytcfpninklbnifaa
/- Draws for the law on layers. -/
namespace Go.Proofs.Ytcfpninklbnifaa
set_option linter.unusedSimpArgs false
set_option linter.unusedVariables false
set_option maxRecDepth 20000
set_option maxHeartbeats 1000000
open Go.Abs

set_option maxHeartbeats 8000000 in
theorem l05Draw_aft {h : List Blk} {b : Nat} {cv : Value} (s : SrcAt h b cv) :
    ∃ (m : Int) (bx mx pl d : Nat → UInt8) (r : Int) (h' : List Blk), (-1 ≤ r ∧ r ≤ 1000) ∧ Aft h h' b cv ∧ AC Try.prog 63 [pt b 0] h (.tuple #[.agg (Ci m bx mx pl r).toArray, .agg (Bs 16 d).toArray]) h' := by
  have hbl := s.lt
  have a0 := s.more [⟨Ci 0 zeroF zeroF zeroF 0, true⟩, ⟨Bs 16 zeroF, true⟩]
  obtain ⟨m, bx, mx, pl, r, h1, hr, a1, c1⟩ := l04Spoil_aft a0.src
  have hR1 := a1.keep h.length ⟨Ci 0 zeroF zeroF zeroF 0, true⟩ (by omega) (by simp)
  have hO1 := a1.keep (h.length + 1) ⟨Bs 16 zeroF, true⟩ (by omega) (by simp)
  have l1 := blt hO1
  have a2 := a1.src.more [⟨Ci m bx mx pl r, true⟩, ⟨Bs 16 zeroF, true⟩]
  obtain ⟨q, h2, hq, a3, c2⟩ := next_aft a2.src (N := 4) (by omega) (by omega)
  have hC2 := a3.keep h1.length ⟨Ci m bx mx pl r, true⟩ (by omega) (by simp)
  have hD2 := a3.keep (h1.length + 1) ⟨Bs 16 zeroF, true⟩ (by omega) (by simp)
  have hR2 := (a2.trans a3).keep _ _ (by omega) hR1
  have hO2 := (a2.trans a3).keep _ _ (by omega) hO1
  have A3 := ((a0.trans a1).trans a2).trans a3
  obtain ⟨st, e0, hI, hRt⟩ := seq_ex (S := List Blk × (Nat → UInt8)) (n := q)
    (I := fun _ s => s.1[h1.length + 1]? = some ⟨Bs 16 s.2, true⟩ ∧ s.1[h1.length]? = some ⟨Ci m bx mx pl r, true⟩ ∧ s.1[h.length]? = some ⟨Ci 0 zeroF zeroF zeroF 0, true⟩ ∧ s.1[h.length + 1]? = some ⟨Bs 16 zeroF, true⟩ ∧ Aft h s.1 b cv)
    (R := fun _ s t => ∃ (i z : Nat) (M1 M2 : List Blk), i < 16 ∧ z < 256 ∧ AC Try.prog 53 [pt b 0, .int .i64 ((16 : Nat) : Int)] s.1 (.int .i64 i) M1 ∧ AC Try.prog 53 [pt b 0, .int .i64 ((256 : Nat) : Int)] M1 (.int .i64 z) M2 ∧ M2[h1.length + 1]? = some ⟨Bs 16 s.2, true⟩ ∧ t = (M2.set (h1.length + 1) ⟨Bs 16 (upd s.2 i (UInt8.ofNat z)), true⟩, upd s.2 i (UInt8.ofNat z)))
    (h2, zeroF) ⟨hD2, hC2, hR2, hO2, A3⟩ (fun k hk s0 ⟨i1, i2, i3, i4, i5⟩ => by
      obtain ⟨i, M1, hi, r1, d1⟩ := next_aft i5.src (N := 16) (by omega) (by omega)
      obtain ⟨z, M2, hz, r2, d2⟩ := next_aft r1.src (N := 256) (by omega) (by omega)
      have a := r1.trans r2
      have j1 := a.keep _ _ (by omega) i1
      have j2 := a.keep _ _ (by omega) i2
      have j3 := a.keep _ _ (by omega) i3
      have j4 := a.keep _ _ (by omega) i4
      exact ⟨_, ⟨look_set (blt j1), set_at j2 (by omega), set_at j3 (by omega), set_at j4 (by omega), (i5.trans a).set s (by omega) _⟩, i, z, M1, M2, hi, hz, d1, d2, j1, rfl⟩)
  obtain ⟨f1, f2, f3, f4, f5⟩ := hI q (Nat.le_refl _)
  obtain ⟨dq, hdq⟩ : ∃ mq, mq = (st q).2 := ⟨_, rfl⟩
  obtain ⟨Mq, hMq⟩ : ∃ Mq, Mq = (st q).1 := ⟨_, rfl⟩
  rw [← hdq, ← hMq] at f1
  rw [← hMq] at f2 f3 f4 f5
  have g4 := set_at (x := ⟨Ci m bx mx pl r, true⟩) f4 (show h.length ≠ h.length + 1 by omega)
  have g3 := set_at (x := ⟨Bs 16 dq, true⟩) (look_set (x := ⟨Ci m bx mx pl r, true⟩) (blt f3)) (show h.length + 1 ≠ h.length by omega)
  have g1 := set_at (x := ⟨Ci m bx mx pl r, true⟩) f1 (show h.length ≠ h1.length + 1 by omega)
  have q0 := set_at (x := dead) (set_at (x := dead) f2 (show h.length ≠ h1.length by omega)) (show h.length + 1 ≠ h1.length by omega)
  have q1 := set_at (x := dead) (set_at (x := dead) f1 (show h.length ≠ h1.length + 1 by omega)) (show h.length + 1 ≠ h1.length + 1 by omega)
  have p0 := set_at (x := dead) (look_set (x := dead) (blt f3)) (show h.length + 1 ≠ h.length by omega)
  have p1 := look_set (x := dead) (blt (set_at (x := dead) f4 (show h.length ≠ h.length + 1 by omega)))
  have hlen := f5.len
  refine ⟨m, bx, mx, pl, dq, r, (Mq.set h.length ⟨Ci m bx mx pl r, true⟩).set (h.length + 1) ⟨Bs 16 dq, true⟩, hr, (f5.set s (by omega) _).set s (by omega) _, ?_⟩
  (refine AC_begin (fun _ _ => Try.call63 _ _) Try.func63 rfl Try.ntmps63 Try.results63 (fun hwf => ?_); simp only [List.length_cons, List.length_nil, Nat.reduceAdd, Nat.reduceSub, List.replicate, List.cons_append, List.nil_append])
  (repeat (first | ((first | (refine And.intro ?_ ?_; focus exact PLA) | ((first | with_reducible apply callB_i | with_reducible apply callK_intro | with_reducible apply callQ_i); (focus (first | assumption | ((first | with_reducible apply c1 | with_reducible apply c2) <;> (first | assumption | rfl | (simp (disch := omega) only [go_sem]; first | done | rfl) | omega | decide | (simp; done))))); (try exact WP_au)) | refine WA_seq (WA_region ?_) | refine WA_region ?_ | refine WA_exit ?_); try simp (maxSteps := 1000000) (disch := first | omega | rfl | decide | (simp only [List.length_cons, List.length_nil, List.length_append, LV] <;> omega)) only [go_sem, Nat.reduceAdd, Int.reduceAdd, Int.reduceSub, Int.reduceMul, Bool.not_true, Bool.not_false, Ci_stC, Ci_splice_all]) | refine WA_seq ?_ | refine WA_block ?_ | (refine WA_skip ?_; try simp only [go_sem]) | (refine WA_ret ?_; try simp only [go_sem]) | refine WA_ct rfl ?_ | refine WA_cf rfl ?_))
  refine WA_forH (fun k => [(6, .int .i64 ((q - k : Nat))), (12, J), (13, J), (14, J), (15, J), (16, J), (17, J), (18, J), (19, J), (20, J), (21, J)]) (fun k => (st k).1) (q) ?_ ?_ ?_ <;> (try simp only [patT_cons, patT_nil, patL_cons, patL_nil, list_set_zero, list_set_succ, blk_set_zero, blk_set_succ])
  · have e1 : (st 0).1 = h2 := by rw [e0]
    have l1 := A3.len
    rw [e1]
    (refine Drop_slots (by first | assumption | exact Nat.le_refl _) ?_; focus ((try simp only [JL_same, JL_J, JL_nil, Int.reduceAdd, Nat.sub_sub, Int.natCast_add, Int.natCast_one, Int.natCast_zero, Int.cast_ofNat_Int, Nat.add_zero, Bool.false_eq_true, if_false, if_true]); (try exact JL_refl _)))
  · intro k hk
    obtain ⟨i, z, M1, M2, hi, hz, d1, d2, j1, e⟩ := hRt k hk
    have l1 := (hI (k + 1) hk).2.2.2.2.len
    have hgo : decide (0 < ((q - k : Nat) : Int)) = true := decide_eq_true (by omega)
    have hst : IntKind.i64.wrap (((q - k : Nat) : Int) - 1) = ((q - (k + 1) : Nat) : Int) := by
      rw [show ((q - k : Nat) : Int) - 1 = ((q - (k + 1) : Nat) : Int) by omega]; exact wrap_N (by omega)
    rw [e] at l1 ⊢
    (repeat (first | ((first | (refine And.intro ?_ ?_; focus exact PLA) | ((first | with_reducible apply callB_i | with_reducible apply callK_intro | with_reducible apply callQ_i); (focus (first | assumption | ((first | with_reducible apply d1 | with_reducible apply d2) <;> (first | assumption | rfl | (simp (disch := omega) only [go_sem]; first | done | rfl) | omega | decide | (simp; done))))); (try exact WP_au)) | refine WA_seq (WA_region ?_) | refine WA_region ?_ | refine WA_exit ?_); try simp (maxSteps := 1000000) (disch := first | omega | rfl | decide | (simp only [List.length_cons, List.length_nil, List.length_append, LV] <;> omega)) only [go_sem, Nat.reduceAdd, Int.reduceAdd, Int.reduceSub, Int.reduceMul, Bool.not_true, Bool.not_false, j1, hgo, hst]) | refine WA_seq ?_ | refine WA_block ?_ | (refine WA_skip ?_; try simp only [go_sem]) | (refine WA_ret ?_; try simp only [go_sem]) | refine WA_ct rfl ?_ | refine WA_cf rfl ?_))
    (refine Drop_slots (by first | assumption | exact Nat.le_refl _) ?_; focus ((try simp only [JL_same, JL_J, JL_nil, Int.reduceAdd, Nat.sub_sub, Int.natCast_add, Int.natCast_one, Int.natCast_zero, Int.cast_ofNat_Int, Nat.add_zero, Bool.false_eq_true, if_false, if_true]); (try exact JL_refl _)))
  · have hgo : decide (0 < ((q - q : Nat) : Int)) = false := decide_eq_false (by omega)
    rw [← hMq]
    (repeat (first | ((first | (refine And.intro ?_ ?_; focus exact PLA) | refine WA_seq (WA_region ?_) | refine WA_region ?_ | refine WA_exit ?_); try simp (maxSteps := 1000000) (disch := first | omega | rfl | decide | (simp only [List.length_cons, List.length_nil, List.length_append, LV] <;> omega)) only [go_sem, Nat.reduceAdd, Int.reduceAdd, Int.reduceSub, Int.reduceMul, Bool.not_true, Bool.not_false, Nat.sub_self, Int.natCast_zero, Int.lt_irrefl, decide_false]) | refine WA_seq ?_ | refine WA_block ?_ | (refine WA_skip ?_; try simp only [go_sem]) | (refine WA_ret ?_; try simp only [go_sem]) | refine WA_ct rfl ?_ | refine WA_cf rfl ?_))
    first | refine WA_seq (WA_rb (id := 6) [3] (SubM.set (SubM.set (SubM.refl _) h.length) (h.length + 1)) mixedOk ?_) | refine WA_rb (id := 6) [3] (SubM.set (SubM.set (SubM.refl _) h.length) (h.length + 1)) mixedOk ?_
    simp only [List.size_toArray, List.length_cons, List.length_nil]
    refine RB_take true [0, 1] 2 (by rfl) (by kernel_rfl) (by decide) (by decide +kernel) ?_
    try simp (maxSteps := 1000000) (disch := first | omega | rfl | decide | (simp only [List.length_cons, List.length_nil, List.length_append, Bs_length] <;> omega)) only [go_sem, Nat.reduceAdd, Ci_stC, Ci_splice_all, f1, f2, f3, g1, g4, q0, q1, p0, p1]
    refine RB_keep 2 _ (by rfl) (by decide +kernel) (by simp (maxSteps := 1000000) (disch := first | omega | rfl | decide | (simp only [List.length_cons, List.length_nil, List.length_append, Bs_length] <;> omega)) only [go_sem, Nat.reduceAdd, Ci_stC, Ci_splice_all, f1, f2, f3, g1, g4, q0, q1, p0, p1]) ?_
    try simp (maxSteps := 1000000) (disch := first | omega | rfl | decide | (simp only [List.length_cons, List.length_nil, List.length_append, Bs_length] <;> omega)) only [go_sem, Nat.reduceAdd, Ci_stC, Ci_splice_all, f1, f2, f3, g1, g4, q0, q1, p0, p1]
    refine RB_exec 3 _ (by rfl) (by decide +kernel) (by decide +kernel) ?_
    try simp (maxSteps := 1000000) (disch := first | omega | rfl | decide | (simp only [List.length_cons, List.length_nil, List.length_append, Bs_length] <;> omega)) only [go_sem, Nat.reduceAdd, Ci_stC, Ci_splice_all, f1, f2, f3, g1, g4, q0, q1, p0, p1]
    refine RB_done (by decide +kernel) ?_
    try simp (maxSteps := 1000000) (disch := first | omega | rfl | decide | (simp only [List.length_cons, List.length_nil, List.length_append, Bs_length] <;> omega)) only [go_sem, Nat.reduceAdd, Ci_stC, Ci_splice_all, f1, f2, f3, g1, g4, q0, q1, p0, p1]
    (repeat (first | ((first | (refine And.intro ?_ ?_; focus exact PLA) | refine WA_seq (WA_region ?_) | refine WA_region ?_ | refine WA_exit ?_); try simp (maxSteps := 1000000) (disch := first | omega | rfl | decide | (simp only [List.length_cons, List.length_nil, List.length_append, LV] <;> omega)) only [go_sem, Nat.reduceAdd, Int.reduceAdd, Int.reduceSub, Int.reduceMul, Bool.not_true, Bool.not_false]) | refine WA_seq ?_ | refine WA_block ?_ | (refine WA_skip ?_; try simp only [go_sem]) | (refine WA_ret ?_; try simp only [go_sem]) | refine WA_ct rfl ?_ | refine WA_cf rfl ?_))
    refine ret_full (by first | exact .inr rfl | exact .inl rfl) (by simpa using hlen) ?_
    simp (maxSteps := 1000000) (disch := first | omega | rfl | decide | (simp only [List.length_cons, List.length_nil, List.length_append, LV] <;> omega)) only [go_sem, Nat.reduceAdd, Int.reduceAdd, Int.reduceSub, Int.reduceMul, Bool.not_true, Bool.not_false, g3, look_set (blt g4)]
    try rfl

theorem drLay_op {h : List Blk} {cv : Value} (c : Cv h cv) : ∃ (m : Int) (bx mx pl d : Nat → UInt8) (r : Int) (last : Bool) (H : List Blk), (-1 ≤ r ∧ r ≤ 1000) ∧ (∃ A, H = h ++ A) ∧ Cv H cv ∧ AC Try.prog 23 [cv] h (.tuple #[.agg (Ci m bx mx pl r).toArray, .agg (Bs 16 d).toArray, .bool last]) H := by
  obtain ⟨h1, s1, e1, c1⟩ := from_aft (c.app [⟨Ci 0 zeroF zeroF zeroF 0, true⟩, ⟨Bs 16 zeroF, true⟩])
  have hlA : (h ++ [(⟨Ci 0 zeroF zeroF zeroF 0, true⟩ : Blk), ⟨Bs 16 zeroF, true⟩]).length = h.length + 2 := by simp
  rw [hlA] at s1 c1
  have hl1 := s1.lt
  have hR0 : (h1)[h.length]? = some ⟨Ci 0 zeroF zeroF zeroF 0, true⟩ := by obtain ⟨L, rfl⟩ := e1; simp
  have hO0 : (h1)[h.length + 1]? = some ⟨Bs 16 zeroF, true⟩ := by obtain ⟨L, rfl⟩ := e1; simp
  obtain ⟨m, bx, mx, pl, d, r, h2, hr, a2, c2⟩ := l05Draw_aft s1
  have hl2 : h1.length ≤ h2.length := a2.len
  have a3 := a2.src.more [⟨Ci m bx mx pl r, true⟩, ⟨Bs 16 d, true⟩]
  obtain ⟨x, k4, k4', h4, hx, hb4, hr4, g4, a4, c4⟩ := next_N a3.src (N := 3) (by omega) (by omega)
  have A := (a2.trans a3).trans a4
  have kc : (h2 ++ ([⟨Ci m bx mx pl r, true⟩, ⟨Bs 16 d, true⟩] : List Blk))[h2.length]? = some ⟨Ci m bx mx pl r, true⟩ := by simp
  have ky : (h2 ++ ([⟨Ci m bx mx pl r, true⟩, ⟨Bs 16 d, true⟩] : List Blk))[h2.length + 1]? = some ⟨Bs 16 d, true⟩ := by simp
  have q0 := set_at (x := dead) (set_at (x := dead) (set_at (x := dead) kc (show h.length ≠ h2.length by omega)) (show h.length + 1 ≠ h2.length by omega)) (show h.length + 2 ≠ h2.length by omega)
  have q1 := set_at (x := dead) (set_at (x := dead) (set_at (x := dead) ky (show h.length ≠ h2.length + 1 by omega)) (show h.length + 1 ≠ h2.length + 1 by omega)) (show h.length + 2 ≠ h2.length + 1 by omega)
  have lM : (h2 ++ ([⟨Ci m bx mx pl r, true⟩, ⟨Bs 16 d, true⟩] : List Blk)).length = h2.length + 2 := by simp
  have hR3 := A.keep _ _ (by omega) hR0
  have hO3 := A.keep _ _ (by omega) hO0
  have p0 : ((((h2 ++ ([⟨Ci m bx mx pl r, true⟩, ⟨Bs 16 d, true⟩] : List Blk)).set h.length dead).set (h.length + 1) dead).set (h.length + 2) dead)[h.length]? = some dead := set_at (set_at (look_set (by omega)) (by omega)) (by omega)
  have p1 : ((((h2 ++ ([⟨Ci m bx mx pl r, true⟩, ⟨Bs 16 d, true⟩] : List Blk)).set h.length dead).set (h.length + 1) dead).set (h.length + 2) dead)[h.length + 1]? = some dead := set_at (look_set (by simp only [List.length_set]; omega)) (by omega)
  have p3 : ((((h2 ++ ([⟨Ci m bx mx pl r, true⟩, ⟨Bs 16 d, true⟩] : List Blk)).set h.length dead).set (h.length + 1) dead).set (h.length + 2) dead)[h.length + 2]? = some dead := look_set (by simp only [List.length_set]; omega)
  have hO4 := set_at (x := ⟨Ci m bx mx pl r, true⟩) hO3 (show h.length ≠ h.length + 1 by omega)
  have hR5 := set_at (x := ⟨Bs 16 d, true⟩) (look_set (x := ⟨Ci m bx mx pl r, true⟩) (blt hR3)) (show h.length + 1 ≠ h.length by omega)
  have hlen : h.length ≤ h4.length := by have := A.len; omega
  have e : ∃ L, (h4.set h.length ⟨Ci m bx mx pl r, true⟩).set (h.length + 1) ⟨Bs 16 d, true⟩ = h ++ L := setX (setX (A.app h (by omega) (app_more e1)) (Nat.le_refl _) _) (by omega) _
  refine ⟨m, bx, mx, pl, d, r, x == 0, _, hr, e, cv_app c e, ?_⟩
  (refine AC_begin (fun _ _ => Try.call23 _ _) Try.func23 rfl Try.ntmps23 Try.results23 (fun hwf => ?_); simp only [List.length_cons, List.length_nil, Nat.reduceAdd, Nat.reduceSub, List.replicate, List.cons_append, List.nil_append])
  (repeat (first | ((first | (refine And.intro ?_ ?_; focus exact PLA) | ((first | with_reducible apply callB_i | with_reducible apply callK_intro | with_reducible apply callQ_i); (focus (first | assumption | ((first | with_reducible apply c1 | with_reducible apply c2) <;> (first | assumption | rfl | (simp (disch := omega) only [go_sem]; first | done | rfl) | omega | decide | (simp; done))))); (try exact WP_au)) | refine WA_seq (WA_region ?_) | refine WA_region ?_ | refine WA_exit ?_); try simp (maxSteps := 1000000) (disch := first | omega | rfl | decide | (simp only [List.length_cons, List.length_nil, List.length_append, LV] <;> omega)) only [go_sem, Nat.reduceAdd, Int.reduceAdd, Int.reduceSub, Int.reduceMul, Bool.not_true, Bool.not_false, Ci_stC, Ci_splice_all]) | refine WA_seq ?_ | refine WA_block ?_ | (refine WA_skip ?_; try simp only [go_sem]) | (refine WA_ret ?_; try simp only [go_sem]) | refine WA_ct rfl ?_ | refine WA_cf rfl ?_))
  first | refine WA_seq (WA_rb (id := 3) [6] (SubM.set (SubM.set (SubM.set (SubM.refl _) h.length) (h.length + 1)) (h.length + 2)) mixedOk ?_) | refine WA_rb (id := 3) [6] (SubM.set (SubM.set (SubM.set (SubM.refl _) h.length) (h.length + 1)) (h.length + 2)) mixedOk ?_
  simp only [List.size_toArray, List.length_cons, List.length_nil]
  refine RB_take false [2] 7 (by rfl) (by kernel_rfl) (by decide) (by decide +kernel) ?_
  try simp (maxSteps := 1000000) (disch := first | omega | rfl | decide | (simp only [List.length_cons, List.length_nil, List.length_append, Bs_length] <;> omega)) only [go_sem, Nat.reduceAdd, Ci_stC, Ci_splice_all, hR3, hO3, hO4, q0, q1, p0, p1]
  refine RB_take true [0, 1] 5 (by rfl) (by kernel_rfl) (by decide) (by decide +kernel) ?_
  try simp (maxSteps := 1000000) (disch := first | omega | rfl | decide | (simp only [List.length_cons, List.length_nil, List.length_append, Bs_length] <;> omega)) only [go_sem, Nat.reduceAdd, Ci_stC, Ci_splice_all, hR3, hO3, hO4, q0, q1, p0, p1]
  refine RB_keepN (h.length + 2) 3 4 (by rfl) (by decide +kernel) (by rw [p3]; exact rfl) ?_
  try simp (maxSteps := 1000000) (disch := first | omega | rfl | decide | (simp only [List.length_cons, List.length_nil, List.length_append, Bs_length] <;> omega)) only [go_sem, Nat.reduceAdd, Ci_stC, Ci_splice_all, hR3, hO3, hO4, q0, q1, p0, p1]
  refine callN_i hb4 hr4 c4 ?_
  rw [← g4]
  try simp (maxSteps := 1000000) (disch := first | omega | rfl | decide | (simp only [List.length_cons, List.length_nil, List.length_append, Bs_length] <;> omega)) only [go_sem, Nat.reduceAdd, Ci_stC, Ci_splice_all, hR3, hO3, hO4, q0, q1, p0, p1]
  refine RB_take false [4] 3 (by rfl) (by kernel_rfl) (by decide) (by decide +kernel) ?_
  try simp (maxSteps := 1000000) (disch := first | omega | rfl | decide | (simp only [List.length_cons, List.length_nil, List.length_append, Bs_length] <;> omega)) only [go_sem, Nat.reduceAdd, Ci_stC, Ci_splice_all, hR3, hO3, hO4, q0, q1, p0, p1]
  refine RB_keep 5 _ (by rfl) (by decide +kernel) (by simp (maxSteps := 1000000) (disch := first | omega | rfl | decide | (simp only [List.length_cons, List.length_nil, List.length_append, Bs_length] <;> omega)) only [go_sem, Nat.reduceAdd, Ci_stC, Ci_splice_all, hR3, hO3, hO4, q0, q1, p0, p1]) ?_
  try simp (maxSteps := 1000000) (disch := first | omega | rfl | decide | (simp only [List.length_cons, List.length_nil, List.length_append, Bs_length] <;> omega)) only [go_sem, Nat.reduceAdd, Ci_stC, Ci_splice_all, hR3, hO3, hO4, q0, q1, p0, p1]
  refine RB_exec 6 _ (by rfl) (by decide +kernel) (by decide +kernel) ?_
  try simp (maxSteps := 1000000) (disch := first | omega | rfl | decide | (simp only [List.length_cons, List.length_nil, List.length_append, Bs_length] <;> omega)) only [go_sem, Nat.reduceAdd, Ci_stC, Ci_splice_all, hR3, hO3, hO4, q0, q1, p0, p1]
  refine RB_take false [7] 0 (by rfl) (by kernel_rfl) (by decide) (by decide +kernel) ?_
  try simp (maxSteps := 1000000) (disch := first | omega | rfl | decide | (simp only [List.length_cons, List.length_nil, List.length_append, Bs_length] <;> omega)) only [go_sem, Nat.reduceAdd, Ci_stC, Ci_splice_all, hR3, hO3, hO4, q0, q1, p0, p1]
  refine RB_done (by decide +kernel) ?_
  try simp (maxSteps := 1000000) (disch := first | omega | rfl | decide | (simp only [List.length_cons, List.length_nil, List.length_append, Bs_length] <;> omega)) only [go_sem, Nat.reduceAdd, Ci_stC, Ci_splice_all, hR3, hO3, hO4, q0, q1, p0, p1]
  (repeat (first | ((first | (refine And.intro ?_ ?_; focus exact PLA) | refine WA_seq (WA_region ?_) | refine WA_region ?_ | refine WA_exit ?_); try simp (maxSteps := 1000000) (disch := first | omega | rfl | decide | (simp only [List.length_cons, List.length_nil, List.length_append, LV] <;> omega)) only [go_sem, Nat.reduceAdd, Int.reduceAdd, Int.reduceSub, Int.reduceMul, Bool.not_true, Bool.not_false]) | refine WA_seq ?_ | refine WA_block ?_ | (refine WA_skip ?_; try simp only [go_sem]) | (refine WA_ret ?_; try simp only [go_sem]) | refine WA_ct rfl ?_ | refine WA_cf rfl ?_))
  refine ret_full (by first | exact .inr rfl | exact .inl rfl) (by simp only [List.length_set]; omega) ?_
  simp (maxSteps := 1000000) (disch := first | omega | rfl | decide | (simp only [List.length_cons, List.length_nil, List.length_append, LV] <;> omega)) only [go_sem, Nat.reduceAdd, Int.reduceAdd, Int.reduceSub, Int.reduceMul, Bool.not_true, Bool.not_false, hR5, look_set (blt hO4)]
  try rfl

theorem drBef_op {h : List Blk} {cv : Value} (c : Cv h cv) : ∃ (m : Int) (bx mx pl d : Nat → UInt8) (r : Int) (last : Bool) (H : List Blk), (-1 ≤ r ∧ r ≤ 1000) ∧ (∃ A, H = h ++ A) ∧ Cv H cv ∧ AC Try.prog 28 [cv] h (.tuple #[.agg (Ci m bx mx pl r).toArray, .agg (Bs 16 d).toArray, .bool last]) H := by
  obtain ⟨m, bx, mx, pl, d, r, last, h1, hr, e1, v1, c1⟩ := drLay_op (c.app [⟨Ci 0 zeroF zeroF zeroF 0, true⟩, ⟨Bs 16 zeroF, true⟩])
  have k0 : (h1)[h.length]? = some ⟨Ci 0 zeroF zeroF zeroF 0, true⟩ := by obtain ⟨L, rfl⟩ := e1; simp
  have k1 : (h1)[h.length + 1]? = some ⟨Bs 16 zeroF, true⟩ := by obtain ⟨L, rfl⟩ := e1; simp
  have hR3 := look_old k0 [⟨Ci m bx mx pl r, true⟩, ⟨Bs 16 d, true⟩]
  have hO3 := look_old k1 [⟨Ci m bx mx pl r, true⟩, ⟨Bs 16 d, true⟩]
  have hO4 := set_at (x := ⟨Ci m bx mx pl r, true⟩) hO3 (show h.length ≠ h.length + 1 by omega)
  have hR5 := set_at (x := ⟨Bs 16 d, true⟩) (look_set (x := ⟨Ci m bx mx pl r, true⟩) (blt hR3)) (show h.length + 1 ≠ h.length by omega)
  have l1 := blt k1
  have hlen : h.length ≤ (h1 ++ ([⟨Ci m bx mx pl r, true⟩, ⟨Bs 16 d, true⟩] : List Blk)).length := by simp; omega
  have e : ∃ L, ((h1 ++ ([⟨Ci m bx mx pl r, true⟩, ⟨Bs 16 d, true⟩] : List Blk)).set h.length ⟨Ci m bx mx pl r, true⟩).set (h.length + 1) ⟨Bs 16 d, true⟩ = h ++ L := setX (setX (app_app (app_more e1)) (Nat.le_refl _) _) (by omega) _
  have kc : (h1 ++ ([⟨Ci m bx mx pl r, true⟩, ⟨Bs 16 d, true⟩] : List Blk))[h1.length]? = some ⟨Ci m bx mx pl r, true⟩ := by simp
  have ky : (h1 ++ ([⟨Ci m bx mx pl r, true⟩, ⟨Bs 16 d, true⟩] : List Blk))[h1.length + 1]? = some ⟨Bs 16 d, true⟩ := by simp
  have q0 := set_at (x := dead) kc (show h.length ≠ h1.length by omega)
  have q1 := set_at (x := dead) ky (show h.length ≠ h1.length + 1 by omega)
  have p0 := look_set (x := dead) (blt hR3)
  refine ⟨m, bx, mx, pl, d, r, last, _, hr, e, cv_app c e, ?_⟩
  (refine AC_begin (fun _ _ => Try.call28 _ _) Try.func28 rfl Try.ntmps28 Try.results28 (fun hwf => ?_); simp only [List.length_cons, List.length_nil, Nat.reduceAdd, Nat.reduceSub, List.replicate, List.cons_append, List.nil_append])
  (repeat (first | ((first | (refine And.intro ?_ ?_; focus exact PLA) | ((first | with_reducible apply callB_i | with_reducible apply callK_intro | with_reducible apply callQ_i); (focus (first | assumption | (with_reducible apply c1 <;> (first | assumption | rfl | (simp (disch := omega) only [go_sem]; first | done | rfl) | omega | decide | (simp; done))))); (try exact WP_au)) | refine WA_seq (WA_region ?_) | refine WA_region ?_ | refine WA_exit ?_); try simp (maxSteps := 1000000) (disch := first | omega | rfl | decide | (simp only [List.length_cons, List.length_nil, List.length_append, LV] <;> omega)) only [go_sem, Nat.reduceAdd, Int.reduceAdd, Int.reduceSub, Int.reduceMul, Bool.not_true, Bool.not_false, Ci_stC, Ci_splice_all]) | refine WA_seq ?_ | refine WA_block ?_ | (refine WA_skip ?_; try simp only [go_sem]) | (refine WA_ret ?_; try simp only [go_sem]) | refine WA_ct rfl ?_ | refine WA_cf rfl ?_))
  first | refine WA_seq (WA_rb (id := 2) [4] (SubM.set (SubM.refl _) h.length) mixedOk ?_) | refine WA_rb (id := 2) [4] (SubM.set (SubM.refl _) h.length) mixedOk ?_
  simp only [List.size_toArray, List.length_cons, List.length_nil]
  refine RB_take false [2] 5 (by rfl) (by kernel_rfl) (by decide) (by decide +kernel) ?_
  try simp (maxSteps := 1000000) (disch := first | omega | rfl | decide | (simp only [List.length_cons, List.length_nil, List.length_append, Bs_length] <;> omega)) only [go_sem, Nat.reduceAdd, Ci_stC, Ci_splice_all, hR3, hO3, hO4, q0, q1, p0]
  refine RB_take true [0, 1] 3 (by rfl) (by kernel_rfl) (by decide) (by decide +kernel) ?_
  try simp (maxSteps := 1000000) (disch := first | omega | rfl | decide | (simp only [List.length_cons, List.length_nil, List.length_append, Bs_length] <;> omega)) only [go_sem, Nat.reduceAdd, Ci_stC, Ci_splice_all, hR3, hO3, hO4, q0, q1, p0]
  refine RB_keep 3 _ (by rfl) (by decide +kernel) (by simp (maxSteps := 1000000) (disch := first | omega | rfl | decide | (simp only [List.length_cons, List.length_nil, List.length_append, Bs_length] <;> omega)) only [go_sem, Nat.reduceAdd, Ci_stC, Ci_splice_all, hR3, hO3, hO4, q0, q1, p0]) ?_
  try simp (maxSteps := 1000000) (disch := first | omega | rfl | decide | (simp only [List.length_cons, List.length_nil, List.length_append, Bs_length] <;> omega)) only [go_sem, Nat.reduceAdd, Ci_stC, Ci_splice_all, hR3, hO3, hO4, q0, q1, p0]
  refine RB_exec 4 _ (by rfl) (by decide +kernel) (by decide +kernel) ?_
  try simp (maxSteps := 1000000) (disch := first | omega | rfl | decide | (simp only [List.length_cons, List.length_nil, List.length_append, Bs_length] <;> omega)) only [go_sem, Nat.reduceAdd, Ci_stC, Ci_splice_all, hR3, hO3, hO4, q0, q1, p0]
  refine RB_take false [5] 0 (by rfl) (by kernel_rfl) (by decide) (by decide +kernel) ?_
  try simp (maxSteps := 1000000) (disch := first | omega | rfl | decide | (simp only [List.length_cons, List.length_nil, List.length_append, Bs_length] <;> omega)) only [go_sem, Nat.reduceAdd, Ci_stC, Ci_splice_all, hR3, hO3, hO4, q0, q1, p0]
  refine RB_done (by decide +kernel) ?_
  try simp (maxSteps := 1000000) (disch := first | omega | rfl | decide | (simp only [List.length_cons, List.length_nil, List.length_append, Bs_length] <;> omega)) only [go_sem, Nat.reduceAdd, Ci_stC, Ci_splice_all, hR3, hO3, hO4, q0, q1, p0]
  (repeat (first | ((first | (refine And.intro ?_ ?_; focus exact PLA) | refine WA_seq (WA_region ?_) | refine WA_region ?_ | refine WA_exit ?_); try simp (maxSteps := 1000000) (disch := first | omega | rfl | decide | (simp only [List.length_cons, List.length_nil, List.length_append, LV] <;> omega)) only [go_sem, Nat.reduceAdd, Int.reduceAdd, Int.reduceSub, Int.reduceMul, Bool.not_true, Bool.not_false]) | refine WA_seq ?_ | refine WA_block ?_ | (refine WA_skip ?_; try simp only [go_sem]) | (refine WA_ret ?_; try simp only [go_sem]) | refine WA_ct rfl ?_ | refine WA_cf rfl ?_))
  refine ret_full (by first | exact .inr rfl | exact .inl rfl) (by simp only [List.length_set, List.length_append, List.length_cons, List.length_nil] at hlen ⊢; omega) ?_
  simp (maxSteps := 1000000) (disch := first | omega | rfl | decide | (simp only [List.length_cons, List.length_nil, List.length_append, LV] <;> omega)) only [go_sem, Nat.reduceAdd, Int.reduceAdd, Int.reduceSub, Int.reduceMul, Bool.not_true, Bool.not_false, hR5, look_set (blt hO4)]
  try rfl

theorem drBes_op {h : List Blk} {cv : Value} (c : Cv h cv) : ∃ (m : Int) (bx mx pl d : Nat → UInt8) (r : Int) (last : Bool) (H : List Blk), (-1 ≤ r ∧ r ≤ 1000) ∧ (∃ A, H = h ++ A) ∧ Cv H cv ∧ AC Try.prog 31 [cv] h (.tuple #[.agg (Ci m bx mx pl r).toArray, .agg (Bs 16 d).toArray, .bool last]) H := by
  obtain ⟨m, bx, mx, pl, d, r, last, h1, hr, e1, v1, c1⟩ := drLay_op (c.app [⟨Ci 0 zeroF zeroF zeroF 0, true⟩, ⟨Bs 16 zeroF, true⟩])
  have k0 : (h1)[h.length]? = some ⟨Ci 0 zeroF zeroF zeroF 0, true⟩ := by obtain ⟨L, rfl⟩ := e1; simp
  have k1 : (h1)[h.length + 1]? = some ⟨Bs 16 zeroF, true⟩ := by obtain ⟨L, rfl⟩ := e1; simp
  have hR3 := look_old k0 [⟨Ci m bx mx pl r, true⟩, ⟨Bs 16 d, true⟩]
  have hO3 := look_old k1 [⟨Ci m bx mx pl r, true⟩, ⟨Bs 16 d, true⟩]
  have hO4 := set_at (x := ⟨Ci m bx mx pl r, true⟩) hO3 (show h.length ≠ h.length + 1 by omega)
  have hR5 := set_at (x := ⟨Bs 16 d, true⟩) (look_set (x := ⟨Ci m bx mx pl r, true⟩) (blt hR3)) (show h.length + 1 ≠ h.length by omega)
  have l1 := blt k1
  have hlen : h.length ≤ (h1 ++ ([⟨Ci m bx mx pl r, true⟩, ⟨Bs 16 d, true⟩] : List Blk)).length := by simp; omega
  have e : ∃ L, ((h1 ++ ([⟨Ci m bx mx pl r, true⟩, ⟨Bs 16 d, true⟩] : List Blk)).set h.length ⟨Ci m bx mx pl r, true⟩).set (h.length + 1) ⟨Bs 16 d, true⟩ = h ++ L := setX (setX (app_app (app_more e1)) (Nat.le_refl _) _) (by omega) _
  have kc : (h1 ++ ([⟨Ci m bx mx pl r, true⟩, ⟨Bs 16 d, true⟩] : List Blk))[h1.length]? = some ⟨Ci m bx mx pl r, true⟩ := by simp
  have ky : (h1 ++ ([⟨Ci m bx mx pl r, true⟩, ⟨Bs 16 d, true⟩] : List Blk))[h1.length + 1]? = some ⟨Bs 16 d, true⟩ := by simp
  have q0 := set_at (x := dead) kc (show h.length ≠ h1.length by omega)
  have q1 := set_at (x := dead) ky (show h.length ≠ h1.length + 1 by omega)
  have p0 := look_set (x := dead) (blt hR3)
  refine ⟨m, bx, mx, pl, d, r, last, _, hr, e, cv_app c e, ?_⟩
  (refine AC_begin (fun _ _ => Try.call31 _ _) Try.func31 rfl Try.ntmps31 Try.results31 (fun hwf => ?_); simp only [List.length_cons, List.length_nil, Nat.reduceAdd, Nat.reduceSub, List.replicate, List.cons_append, List.nil_append])
  (repeat (first | ((first | (refine And.intro ?_ ?_; focus exact PLA) | ((first | with_reducible apply callB_i | with_reducible apply callK_intro | with_reducible apply callQ_i); (focus (first | assumption | (with_reducible apply c1 <;> (first | assumption | rfl | (simp (disch := omega) only [go_sem]; first | done | rfl) | omega | decide | (simp; done))))); (try exact WP_au)) | refine WA_seq (WA_region ?_) | refine WA_region ?_ | refine WA_exit ?_); try simp (maxSteps := 1000000) (disch := first | omega | rfl | decide | (simp only [List.length_cons, List.length_nil, List.length_append, LV] <;> omega)) only [go_sem, Nat.reduceAdd, Int.reduceAdd, Int.reduceSub, Int.reduceMul, Bool.not_true, Bool.not_false, Ci_stC, Ci_splice_all]) | refine WA_seq ?_ | refine WA_block ?_ | (refine WA_skip ?_; try simp only [go_sem]) | (refine WA_ret ?_; try simp only [go_sem]) | refine WA_ct rfl ?_ | refine WA_cf rfl ?_))
  first | refine WA_seq (WA_rb (id := 2) [4] (SubM.set (SubM.refl _) h.length) mixedOk ?_) | refine WA_rb (id := 2) [4] (SubM.set (SubM.refl _) h.length) mixedOk ?_
  simp only [List.size_toArray, List.length_cons, List.length_nil]
  refine RB_take false [2] 5 (by rfl) (by kernel_rfl) (by decide) (by decide +kernel) ?_
  try simp (maxSteps := 1000000) (disch := first | omega | rfl | decide | (simp only [List.length_cons, List.length_nil, List.length_append, Bs_length] <;> omega)) only [go_sem, Nat.reduceAdd, Ci_stC, Ci_splice_all, hR3, hO3, hO4, q0, q1, p0]
  refine RB_take true [0, 1] 3 (by rfl) (by kernel_rfl) (by decide) (by decide +kernel) ?_
  try simp (maxSteps := 1000000) (disch := first | omega | rfl | decide | (simp only [List.length_cons, List.length_nil, List.length_append, Bs_length] <;> omega)) only [go_sem, Nat.reduceAdd, Ci_stC, Ci_splice_all, hR3, hO3, hO4, q0, q1, p0]
  refine RB_keep 3 _ (by rfl) (by decide +kernel) (by simp (maxSteps := 1000000) (disch := first | omega | rfl | decide | (simp only [List.length_cons, List.length_nil, List.length_append, Bs_length] <;> omega)) only [go_sem, Nat.reduceAdd, Ci_stC, Ci_splice_all, hR3, hO3, hO4, q0, q1, p0]) ?_
  try simp (maxSteps := 1000000) (disch := first | omega | rfl | decide | (simp only [List.length_cons, List.length_nil, List.length_append, Bs_length] <;> omega)) only [go_sem, Nat.reduceAdd, Ci_stC, Ci_splice_all, hR3, hO3, hO4, q0, q1, p0]
  refine RB_exec 4 _ (by rfl) (by decide +kernel) (by decide +kernel) ?_
  try simp (maxSteps := 1000000) (disch := first | omega | rfl | decide | (simp only [List.length_cons, List.length_nil, List.length_append, Bs_length] <;> omega)) only [go_sem, Nat.reduceAdd, Ci_stC, Ci_splice_all, hR3, hO3, hO4, q0, q1, p0]
  refine RB_take false [5] 0 (by rfl) (by kernel_rfl) (by decide) (by decide +kernel) ?_
  try simp (maxSteps := 1000000) (disch := first | omega | rfl | decide | (simp only [List.length_cons, List.length_nil, List.length_append, Bs_length] <;> omega)) only [go_sem, Nat.reduceAdd, Ci_stC, Ci_splice_all, hR3, hO3, hO4, q0, q1, p0]
  refine RB_done (by decide +kernel) ?_
  try simp (maxSteps := 1000000) (disch := first | omega | rfl | decide | (simp only [List.length_cons, List.length_nil, List.length_append, Bs_length] <;> omega)) only [go_sem, Nat.reduceAdd, Ci_stC, Ci_splice_all, hR3, hO3, hO4, q0, q1, p0]
  (repeat (first | ((first | (refine And.intro ?_ ?_; focus exact PLA) | refine WA_seq (WA_region ?_) | refine WA_region ?_ | refine WA_exit ?_); try simp (maxSteps := 1000000) (disch := first | omega | rfl | decide | (simp only [List.length_cons, List.length_nil, List.length_append, LV] <;> omega)) only [go_sem, Nat.reduceAdd, Int.reduceAdd, Int.reduceSub, Int.reduceMul, Bool.not_true, Bool.not_false]) | refine WA_seq ?_ | refine WA_block ?_ | (refine WA_skip ?_; try simp only [go_sem]) | (refine WA_ret ?_; try simp only [go_sem]) | refine WA_ct rfl ?_ | refine WA_cf rfl ?_))
  refine ret_full (by first | exact .inr rfl | exact .inl rfl) (by simp only [List.length_set, List.length_append, List.length_cons, List.length_nil] at hlen ⊢; omega) ?_
  simp (maxSteps := 1000000) (disch := first | omega | rfl | decide | (simp only [List.length_cons, List.length_nil, List.length_append, LV] <;> omega)) only [go_sem, Nat.reduceAdd, Int.reduceAdd, Int.reduceSub, Int.reduceMul, Bool.not_true, Bool.not_false, hR5, look_set (blt hO4)]
  try rfl

set_option maxHeartbeats 8000000 in
theorem drSte_op {h : List Blk} {cv : Value} (c : Cv h cv) : ∃ (m : Int) (bx mx pl d e : Nat → UInt8) (r : Int) (last : Bool) (H : List Blk), (-1 ≤ r ∧ r ≤ 1000) ∧ (∃ A, H = h ++ A) ∧ Cv H cv ∧ AC Try.prog 35 [cv] h (.tuple #[.agg (Ci m bx mx pl r).toArray, .agg (Bs 16 d).toArray, .agg (Bs 16 e).toArray, .bool last]) H := by
  obtain ⟨h1, s1, e1, c1⟩ := from_aft (c.app [⟨Ci 0 zeroF zeroF zeroF 0, true⟩, ⟨Bs 16 zeroF, true⟩, ⟨Bs 16 zeroF, true⟩])
  have hlA : (h ++ [(⟨Ci 0 zeroF zeroF zeroF 0, true⟩ : Blk), ⟨Bs 16 zeroF, true⟩, ⟨Bs 16 zeroF, true⟩]).length = h.length + 3 := by simp
  rw [hlA] at s1 c1
  have hl1 := s1.lt
  have hR0 : (h1)[h.length]? = some ⟨Ci 0 zeroF zeroF zeroF 0, true⟩ := by obtain ⟨L, rfl⟩ := e1; simp
  have hO0 : (h1)[h.length + 1]? = some ⟨Bs 16 zeroF, true⟩ := by obtain ⟨L, rfl⟩ := e1; simp
  have hP0 : (h1)[h.length + 2]? = some ⟨Bs 16 zeroF, true⟩ := by obtain ⟨L, rfl⟩ := e1; simp
  obtain ⟨m, bx, mx, pl, d, r, h2, hr, a2, c2⟩ := l05Draw_aft s1
  have hl2 : h1.length ≤ h2.length := a2.len
  have a3 := a2.src.more [⟨Ci m bx mx pl r, true⟩, ⟨Bs 16 d, true⟩]
  obtain ⟨x, h3, hx, a4, c3⟩ := next_aft a3.src (N := 3) (by omega) (by omega)
  have kc : h3[h2.length]? = some ⟨Ci m bx mx pl r, true⟩ := a4.keep _ _ (by omega) (by simp)
  have ky : h3[h2.length + 1]? = some ⟨Bs 16 d, true⟩ := a4.keep _ _ (by omega) (by simp)
  have A3 := (a2.trans a3).trans a4
  have hR3 := A3.keep _ _ (by omega) hR0
  have hO3 := A3.keep _ _ (by omega) hO0
  have hP3 := A3.keep _ _ (by omega) hP0
  have E3 := A3.app h (by omega) (app_more e1)
  have lky := blt ky
  cases hc : cipB m bx mx pl r
  · skip
    obtain ⟨m2, bx2, mx2, pl2, e2, r2, h5, hr2, a6, c6⟩ := l05Draw_aft A3.src
    have a7 := a6.src.more [⟨Ci m2 bx2 mx2 pl2 r2, true⟩, ⟨Bs 16 e2, true⟩]
    have A7 := (A3.trans a6).trans a7
    have KR := (a6.trans a7).keep _ _ (by omega) hR3
    have KO := (a6.trans a7).keep _ _ (by omega) hO3
    have KP := (a6.trans a7).keep _ _ (by omega) hP3
    have KC := (a6.trans a7).keep _ _ (by omega) kc
    have KY := (a6.trans a7).keep _ _ (by omega) ky
    have hl5 := blt (a6.keep _ _ (by omega) ky)
    have XE := A7.app h (by omega) (app_more e1)
    have KE : (h5 ++ ([⟨Ci m2 bx2 mx2 pl2 r2, true⟩, ⟨Bs 16 e2, true⟩] : List Blk))[h5.length + 1]? = some ⟨Bs 16 e2, true⟩ := by simp
    have q2 := set_at (x := dead) (set_at (x := dead) KE (show h.length ≠ h5.length + 1 by omega)) (show h.length + 1 ≠ h5.length + 1 by omega)
    have hO4 := set_at (x := ⟨Ci m bx mx pl r, true⟩) KO (show h.length ≠ h.length + 1 by omega)
    have hP4 := set_at (x := ⟨Bs 16 d, true⟩) (set_at (x := ⟨Ci m bx mx pl r, true⟩) KP (show h.length ≠ h.length + 2 by omega)) (show h.length + 1 ≠ h.length + 2 by omega)
    have hR5 := set_at (x := ⟨Bs 16 e2, true⟩) (set_at (x := ⟨Bs 16 d, true⟩) (look_set (x := ⟨Ci m bx mx pl r, true⟩) (blt KR)) (show h.length + 1 ≠ h.length by omega)) (show h.length + 2 ≠ h.length by omega)
    have hO5 := set_at (x := ⟨Bs 16 e2, true⟩) (look_set (x := ⟨Bs 16 d, true⟩) (blt hO4)) (show h.length + 2 ≠ h.length + 1 by omega)
    have q0 := set_at (x := dead) (set_at (x := dead) KC (show h.length ≠ h2.length by omega)) (show h.length + 1 ≠ h2.length by omega)
    have q1 := set_at (x := dead) (set_at (x := dead) KY (show h.length ≠ h2.length + 1 by omega)) (show h.length + 1 ≠ h2.length + 1 by omega)
    have p0 := set_at (x := dead) (look_set (x := dead) (blt KR)) (show h.length + 1 ≠ h.length by omega)
    have p1 := look_set (x := dead) (blt (set_at (x := dead) KO (show h.length ≠ h.length + 1 by omega)))
    have e : ∃ L, (((h5 ++ ([⟨Ci m2 bx2 mx2 pl2 r2, true⟩, ⟨Bs 16 e2, true⟩] : List Blk)).set h.length ⟨Ci m bx mx pl r, true⟩).set (h.length + 1) ⟨Bs 16 d, true⟩).set (h.length + 2) ⟨Bs 16 e2, true⟩ = h ++ L := setX (setX (setX XE (Nat.le_refl _) _) (by omega) _) (by omega) _
    have hlen := app_len XE
    refine ⟨m, bx, mx, pl, d, e2, r, x == 0, _, hr, e, cv_app c e, ?_⟩
    (refine AC_begin (fun _ _ => Try.call35 _ _) Try.func35 rfl Try.ntmps35 Try.results35 (fun hwf => ?_); simp only [List.length_cons, List.length_nil, Nat.reduceAdd, Nat.reduceSub, List.replicate, List.cons_append, List.nil_append])
    (repeat (first | ((first | (refine And.intro ?_ ?_; focus exact PLA) | ((first | with_reducible apply callB_i | with_reducible apply callK_intro | with_reducible apply callQ_i); (focus (first | assumption | ((first | with_reducible apply c1 | with_reducible apply c2 | with_reducible apply c3 | with_reducible apply cipS_ac | with_reducible apply c6) <;> (first | assumption | rfl | (simp (disch := omega) only [go_sem]; first | done | rfl) | omega | decide | (simp; done))))); (try exact WP_au)) | refine WA_seq (WA_region ?_) | refine WA_region ?_ | refine WA_exit ?_); try simp (maxSteps := 1000000) (disch := first | omega | rfl | decide | (simp only [List.length_cons, List.length_nil, List.length_append, LV] <;> omega)) only [go_sem, Nat.reduceAdd, Int.reduceAdd, Int.reduceSub, Int.reduceMul, Bool.not_true, Bool.not_false, Ci_stC, Ci_splice_all, hc, kc, ky, yieldA_at 2 24]) | refine WA_seq ?_ | refine WA_block ?_ | (refine WA_skip ?_; try simp only [go_sem]) | (refine WA_ret ?_; try simp only [go_sem]) | refine WA_ct rfl ?_ | refine WA_cf rfl ?_))
    first | refine WA_seq (WA_rb (id := 7) [6] (SubM.set (SubM.set (SubM.refl _) h.length) (h.length + 1)) mixedOk ?_) | refine WA_rb (id := 7) [6] (SubM.set (SubM.set (SubM.refl _) h.length) (h.length + 1)) mixedOk ?_
    simp only [List.size_toArray, List.length_cons, List.length_nil]
    refine RB_take false [3] 7 (by rfl) (by kernel_rfl) (by decide) (by decide +kernel) ?_
    try simp (maxSteps := 1000000) (disch := first | omega | rfl | decide | (simp only [List.length_cons, List.length_nil, List.length_append, Bs_length] <;> omega)) only [go_sem, Nat.reduceAdd, Ci_stC, Ci_splice_all, KR, KO, KP, hO4, hP4, q0, q1, q2, p0, p1, KC, KY]
    refine RB_take true [0, 1, 2] 4 (by rfl) (by kernel_rfl) (by decide) (by decide +kernel) ?_
    try simp (maxSteps := 1000000) (disch := first | omega | rfl | decide | (simp only [List.length_cons, List.length_nil, List.length_append, Bs_length] <;> omega)) only [go_sem, Nat.reduceAdd, Ci_stC, Ci_splice_all, KR, KO, KP, hO4, hP4, q0, q1, q2, p0, p1, KC, KY]
    refine RB_keep 4 _ (by rfl) (by decide +kernel) (by simp (maxSteps := 1000000) (disch := first | omega | rfl | decide | (simp only [List.length_cons, List.length_nil, List.length_append, Bs_length] <;> omega)) only [go_sem, Nat.reduceAdd, Ci_stC, Ci_splice_all, KR, KO, KP, hO4, hP4, q0, q1, q2, p0, p1, KC, KY]) ?_
    try simp (maxSteps := 1000000) (disch := first | omega | rfl | decide | (simp only [List.length_cons, List.length_nil, List.length_append, Bs_length] <;> omega)) only [go_sem, Nat.reduceAdd, Ci_stC, Ci_splice_all, KR, KO, KP, hO4, hP4, q0, q1, q2, p0, p1, KC, KY]
    refine RB_keep 5 _ (by rfl) (by decide +kernel) (by simp (maxSteps := 1000000) (disch := first | omega | rfl | decide | (simp only [List.length_cons, List.length_nil, List.length_append, Bs_length] <;> omega)) only [go_sem, Nat.reduceAdd, Ci_stC, Ci_splice_all, KR, KO, KP, hO4, hP4, q0, q1, q2, p0, p1, KC, KY]) ?_
    try simp (maxSteps := 1000000) (disch := first | omega | rfl | decide | (simp only [List.length_cons, List.length_nil, List.length_append, Bs_length] <;> omega)) only [go_sem, Nat.reduceAdd, Ci_stC, Ci_splice_all, KR, KO, KP, hO4, hP4, q0, q1, q2, p0, p1, KC, KY]
    refine RB_exec 6 _ (by rfl) (by decide +kernel) (by decide +kernel) ?_
    try simp (maxSteps := 1000000) (disch := first | omega | rfl | decide | (simp only [List.length_cons, List.length_nil, List.length_append, Bs_length] <;> omega)) only [go_sem, Nat.reduceAdd, Ci_stC, Ci_splice_all, KR, KO, KP, hO4, hP4, q0, q1, q2, p0, p1, KC, KY]
    refine RB_take false [7] 0 (by rfl) (by kernel_rfl) (by decide) (by decide +kernel) ?_
    try simp (maxSteps := 1000000) (disch := first | omega | rfl | decide | (simp only [List.length_cons, List.length_nil, List.length_append, Bs_length] <;> omega)) only [go_sem, Nat.reduceAdd, Ci_stC, Ci_splice_all, KR, KO, KP, hO4, hP4, q0, q1, q2, p0, p1, KC, KY]
    refine RB_done (by decide +kernel) ?_
    try simp (maxSteps := 1000000) (disch := first | omega | rfl | decide | (simp only [List.length_cons, List.length_nil, List.length_append, Bs_length] <;> omega)) only [go_sem, Nat.reduceAdd, Ci_stC, Ci_splice_all, KR, KO, KP, hO4, hP4, q0, q1, q2, p0, p1, KC, KY]
    (repeat (first | ((first | (refine And.intro ?_ ?_; focus exact PLA) | refine WA_seq (WA_region ?_) | refine WA_region ?_ | refine WA_exit ?_); try simp (maxSteps := 1000000) (disch := first | omega | rfl | decide | (simp only [List.length_cons, List.length_nil, List.length_append, LV] <;> omega)) only [go_sem, Nat.reduceAdd, Int.reduceAdd, Int.reduceSub, Int.reduceMul, Bool.not_true, Bool.not_false, yieldA_at 2 24]) | refine WA_seq ?_ | refine WA_block ?_ | (refine WA_skip ?_; try simp only [go_sem]) | (refine WA_ret ?_; try simp only [go_sem]) | refine WA_ct rfl ?_ | refine WA_cf rfl ?_))
    refine ret_full (by first | exact .inr rfl | exact .inl rfl) (by simp only [List.length_set]; omega) ?_
    simp (maxSteps := 1000000) (disch := first | omega | rfl | decide | (simp only [List.length_cons, List.length_nil, List.length_append, LV] <;> omega)) only [go_sem, Nat.reduceAdd, Int.reduceAdd, Int.reduceSub, Int.reduceMul, Bool.not_true, Bool.not_false, hR5, hO5, look_set (blt hP4)]
    try rfl
  · obtain ⟨y, h4, hy, a5, c4⟩ := next_aft a4.src (N := 4) (by omega) (by omega)
    have A4 := A3.trans a5
    have hR4 := a5.keep _ _ (by omega) hR3
    have hO4' := a5.keep _ _ (by omega) hO3
    have hP4' := a5.keep _ _ (by omega) hP3
    have kc4 := a5.keep _ _ (by omega) kc
    have ky4 := a5.keep _ _ (by omega) ky
    have E4 := A4.app h (by omega) (app_more e1)
    by_cases hy0 : 0 < y
    · obtain ⟨k, rfl, h0, h1', hf, hd, hp, n, rfl, hn, hn2⟩ := cipB_nat hc
      have hp' : ∀ i, i < 16 → (pl i).toNat < 16 := fun i hi => plOk_lt hp hi
      have hO4 := set_at (x := ⟨Ci k bx mx pl n, true⟩) hO4' (show h.length ≠ h.length + 1 by omega)
      have hP4 := set_at (x := ⟨Bs 16 d, true⟩) (set_at (x := ⟨Ci k bx mx pl n, true⟩) hP4' (show h.length ≠ h.length + 2 by omega)) (show h.length + 1 ≠ h.length + 2 by omega)
      have hR5 := set_at (x := ⟨Bs 16 (layF k mx pl (bsF bx d) (x == 0)), true⟩) (set_at (x := ⟨Bs 16 d, true⟩) (look_set (x := ⟨Ci k bx mx pl n, true⟩) (blt hR4)) (show h.length + 1 ≠ h.length by omega)) (show h.length + 2 ≠ h.length by omega)
      have hO5 := set_at (x := ⟨Bs 16 (layF k mx pl (bsF bx d) (x == 0)), true⟩) (look_set (x := ⟨Bs 16 d, true⟩) (blt hO4)) (show h.length + 2 ≠ h.length + 1 by omega)
      have q0 := set_at (x := dead) (set_at (x := dead) kc4 (show h.length ≠ h2.length by omega)) (show h.length + 1 ≠ h2.length by omega)
      have q1 := set_at (x := dead) (set_at (x := dead) ky4 (show h.length ≠ h2.length + 1 by omega)) (show h.length + 1 ≠ h2.length + 1 by omega)
      have p0 := set_at (x := dead) (look_set (x := dead) (blt hR4)) (show h.length + 1 ≠ h.length by omega)
      have p1 := look_set (x := dead) (blt (set_at (x := dead) hO4' (show h.length ≠ h.length + 1 by omega)))
      have e : ∃ L, ((h4.set h.length ⟨Ci k bx mx pl n, true⟩).set (h.length + 1) ⟨Bs 16 d, true⟩).set (h.length + 2) ⟨Bs 16 (layF k mx pl (bsF bx d) (x == 0)), true⟩ = h ++ L := setX (setX (setX E4 (Nat.le_refl _) _) (by omega) _) (by omega) _
      have hlen := app_len E4
      refine ⟨k, bx, mx, pl, d, layF k mx pl (bsF bx d) (x == 0), n, x == 0, _, hr, e, cv_app c e, ?_⟩
      (refine AC_begin (fun _ _ => Try.call35 _ _) Try.func35 rfl Try.ntmps35 Try.results35 (fun hwf => ?_); simp only [List.length_cons, List.length_nil, Nat.reduceAdd, Nat.reduceSub, List.replicate, List.cons_append, List.nil_append])
      (repeat (first | ((first | (refine And.intro ?_ ?_; focus exact PLA) | ((first | with_reducible apply callB_i | with_reducible apply callK_intro | with_reducible apply callQ_i); (focus (first | assumption | ((first | with_reducible apply c1 | with_reducible apply c2 | with_reducible apply c3 | with_reducible apply cipS_ac | with_reducible apply c4) <;> (first | assumption | rfl | (simp (disch := omega) only [go_sem]; first | done | rfl) | omega | decide | (simp; done))))); (try exact WP_au)) | refine WA_seq (WA_region ?_) | refine WA_region ?_ | refine WA_exit ?_); try simp (maxSteps := 1000000) (disch := first | omega | rfl | decide | (simp only [List.length_cons, List.length_nil, List.length_append, LV] <;> omega)) only [go_sem, Nat.reduceAdd, Int.reduceAdd, Int.reduceSub, Int.reduceMul, Bool.not_true, Bool.not_false, Ci_stC, Ci_splice_all, hc, decide_eq_true hy0, kc, ky, yieldA_at 2 24]) | refine WA_seq ?_ | refine WA_block ?_ | (refine WA_skip ?_; try simp only [go_sem]) | (refine WA_ret ?_; try simp only [go_sem]) | refine WA_ct rfl ?_ | refine WA_cf rfl ?_))
      first | refine WA_seq (WA_rb (id := 5) [9] (SubM.set (SubM.set (SubM.refl _) h.length) (h.length + 1)) mixedOk ?_) | refine WA_rb (id := 5) [9] (SubM.set (SubM.set (SubM.refl _) h.length) (h.length + 1)) mixedOk ?_
      simp only [List.size_toArray, List.length_cons, List.length_nil]
      refine RB_take false [4, 6] 9 (by rfl) (by kernel_rfl) (by decide) (by decide +kernel) ?_
      try simp (maxSteps := 1000000) (disch := first | omega | rfl | decide | (simp only [List.length_cons, List.length_nil, List.length_append, Bs_length] <;> omega)) only [go_sem, Nat.reduceAdd, Ci_stC, Ci_splice_all, hR4, hO4', hP4', hO4, hP4, q0, q1, p0, p1, kc4, ky4]
      refine RB_take true [0, 1, 2, 3, 5] 4 (by rfl) (by kernel_rfl) (by decide) (by decide +kernel) ?_
      try simp (maxSteps := 1000000) (disch := first | omega | rfl | decide | (simp only [List.length_cons, List.length_nil, List.length_append, Bs_length] <;> omega)) only [go_sem, Nat.reduceAdd, Ci_stC, Ci_splice_all, hR4, hO4', hP4', hO4, hP4, q0, q1, p0, p1, kc4, ky4]
      (repeat (first | ((first | (refine And.intro ?_ ?_; focus exact PLA) | ((first | with_reducible apply callB_i | with_reducible apply callK_intro | with_reducible apply callQ_i); (focus (first | assumption | (with_reducible apply bestS_ac h0 h1' _ _ _ hp' <;> (first | assumption | rfl | (simp (disch := omega) only [go_sem]; first | done | rfl) | omega | decide | (simp; done))))); (try exact WP_au)) | refine WA_seq (WA_region ?_) | refine WA_region ?_ | refine WA_exit ?_); try simp (maxSteps := 1000000) (disch := first | omega | rfl | decide | (simp only [List.length_cons, List.length_nil, List.length_append, LV] <;> omega)) only [go_sem, Nat.reduceAdd, Int.reduceAdd, Int.reduceSub, Int.reduceMul, Bool.not_true, Bool.not_false, yieldA_at 2 24]) | refine WA_seq ?_ | refine WA_block ?_ | (refine WA_skip ?_; try simp only [go_sem]) | (refine WA_ret ?_; try simp only [go_sem]) | refine WA_ct rfl ?_ | refine WA_cf rfl ?_))
      try simp (maxSteps := 1000000) (disch := first | omega | rfl | decide | (simp only [List.length_cons, List.length_nil, List.length_append, Bs_length] <;> omega)) only [go_sem, Nat.reduceAdd, Ci_stC, Ci_splice_all, hR4, hO4', hP4', hO4, hP4, q0, q1, p0, p1, kc4, ky4]
      refine RB_keep 7 _ (by rfl) (by decide +kernel) (by simp (maxSteps := 1000000) (disch := first | omega | rfl | decide | (simp only [List.length_cons, List.length_nil, List.length_append, Bs_length] <;> omega)) only [go_sem, Nat.reduceAdd, Ci_stC, Ci_splice_all, hR4, hO4', hP4', hO4, hP4, q0, q1, p0, p1, kc4, ky4]) ?_
      try simp (maxSteps := 1000000) (disch := first | omega | rfl | decide | (simp only [List.length_cons, List.length_nil, List.length_append, Bs_length] <;> omega)) only [go_sem, Nat.reduceAdd, Ci_stC, Ci_splice_all, hR4, hO4', hP4', hO4, hP4, q0, q1, p0, p1, kc4, ky4]
      refine RB_keep 8 _ (by rfl) (by decide +kernel) (by simp (maxSteps := 1000000) (disch := first | omega | rfl | decide | (simp only [List.length_cons, List.length_nil, List.length_append, Bs_length] <;> omega)) only [go_sem, Nat.reduceAdd, Ci_stC, Ci_splice_all, hR4, hO4', hP4', hO4, hP4, q0, q1, p0, p1, kc4, ky4]) ?_
      try simp (maxSteps := 1000000) (disch := first | omega | rfl | decide | (simp only [List.length_cons, List.length_nil, List.length_append, Bs_length] <;> omega)) only [go_sem, Nat.reduceAdd, Ci_stC, Ci_splice_all, hR4, hO4', hP4', hO4, hP4, q0, q1, p0, p1, kc4, ky4]
      refine RB_exec 9 _ (by rfl) (by decide +kernel) (by decide +kernel) ?_
      try simp (maxSteps := 1000000) (disch := first | omega | rfl | decide | (simp only [List.length_cons, List.length_nil, List.length_append, Bs_length] <;> omega)) only [go_sem, Nat.reduceAdd, Ci_stC, Ci_splice_all, hR4, hO4', hP4', hO4, hP4, q0, q1, p0, p1, kc4, ky4]
      refine RB_take false [10] 0 (by rfl) (by kernel_rfl) (by decide) (by decide +kernel) ?_
      try simp (maxSteps := 1000000) (disch := first | omega | rfl | decide | (simp only [List.length_cons, List.length_nil, List.length_append, Bs_length] <;> omega)) only [go_sem, Nat.reduceAdd, Ci_stC, Ci_splice_all, hR4, hO4', hP4', hO4, hP4, q0, q1, p0, p1, kc4, ky4]
      refine RB_done (by decide +kernel) ?_
      try simp (maxSteps := 1000000) (disch := first | omega | rfl | decide | (simp only [List.length_cons, List.length_nil, List.length_append, Bs_length] <;> omega)) only [go_sem, Nat.reduceAdd, Ci_stC, Ci_splice_all, hR4, hO4', hP4', hO4, hP4, q0, q1, p0, p1, kc4, ky4]
      (repeat (first | ((first | (refine And.intro ?_ ?_; focus exact PLA) | refine WA_seq (WA_region ?_) | refine WA_region ?_ | refine WA_exit ?_); try simp (maxSteps := 1000000) (disch := first | omega | rfl | decide | (simp only [List.length_cons, List.length_nil, List.length_append, LV] <;> omega)) only [go_sem, Nat.reduceAdd, Int.reduceAdd, Int.reduceSub, Int.reduceMul, Bool.not_true, Bool.not_false, yieldA_at 2 24]) | refine WA_seq ?_ | refine WA_block ?_ | (refine WA_skip ?_; try simp only [go_sem]) | (refine WA_ret ?_; try simp only [go_sem]) | refine WA_ct rfl ?_ | refine WA_cf rfl ?_))
      refine ret_full (by first | exact .inr rfl | exact .inl rfl) (by simp only [List.length_set]; omega) ?_
      simp (maxSteps := 1000000) (disch := first | omega | rfl | decide | (simp only [List.length_cons, List.length_nil, List.length_append, LV] <;> omega)) only [go_sem, Nat.reduceAdd, Int.reduceAdd, Int.reduceSub, Int.reduceMul, Bool.not_true, Bool.not_false, hR5, hO5, look_set (blt hP4)]
      try rfl
    · skip
      obtain ⟨m2, bx2, mx2, pl2, e2, r2, h5, hr2, a6, c6⟩ := l05Draw_aft A4.src
      have a7 := a6.src.more [⟨Ci m2 bx2 mx2 pl2 r2, true⟩, ⟨Bs 16 e2, true⟩]
      have A7 := (A4.trans a6).trans a7
      have KR := (a6.trans a7).keep _ _ (by omega) hR4
      have KO := (a6.trans a7).keep _ _ (by omega) hO4'
      have KP := (a6.trans a7).keep _ _ (by omega) hP4'
      have KC := (a6.trans a7).keep _ _ (by omega) kc4
      have KY := (a6.trans a7).keep _ _ (by omega) ky4
      have hl5 := blt (a6.keep _ _ (by omega) ky4)
      have XE := A7.app h (by omega) (app_more e1)
      have KE : (h5 ++ ([⟨Ci m2 bx2 mx2 pl2 r2, true⟩, ⟨Bs 16 e2, true⟩] : List Blk))[h5.length + 1]? = some ⟨Bs 16 e2, true⟩ := by simp
      have q2 := set_at (x := dead) (set_at (x := dead) KE (show h.length ≠ h5.length + 1 by omega)) (show h.length + 1 ≠ h5.length + 1 by omega)
      have hO4 := set_at (x := ⟨Ci m bx mx pl r, true⟩) KO (show h.length ≠ h.length + 1 by omega)
      have hP4 := set_at (x := ⟨Bs 16 d, true⟩) (set_at (x := ⟨Ci m bx mx pl r, true⟩) KP (show h.length ≠ h.length + 2 by omega)) (show h.length + 1 ≠ h.length + 2 by omega)
      have hR5 := set_at (x := ⟨Bs 16 e2, true⟩) (set_at (x := ⟨Bs 16 d, true⟩) (look_set (x := ⟨Ci m bx mx pl r, true⟩) (blt KR)) (show h.length + 1 ≠ h.length by omega)) (show h.length + 2 ≠ h.length by omega)
      have hO5 := set_at (x := ⟨Bs 16 e2, true⟩) (look_set (x := ⟨Bs 16 d, true⟩) (blt hO4)) (show h.length + 2 ≠ h.length + 1 by omega)
      have q0 := set_at (x := dead) (set_at (x := dead) KC (show h.length ≠ h2.length by omega)) (show h.length + 1 ≠ h2.length by omega)
      have q1 := set_at (x := dead) (set_at (x := dead) KY (show h.length ≠ h2.length + 1 by omega)) (show h.length + 1 ≠ h2.length + 1 by omega)
      have p0 := set_at (x := dead) (look_set (x := dead) (blt KR)) (show h.length + 1 ≠ h.length by omega)
      have p1 := look_set (x := dead) (blt (set_at (x := dead) KO (show h.length ≠ h.length + 1 by omega)))
      have e : ∃ L, (((h5 ++ ([⟨Ci m2 bx2 mx2 pl2 r2, true⟩, ⟨Bs 16 e2, true⟩] : List Blk)).set h.length ⟨Ci m bx mx pl r, true⟩).set (h.length + 1) ⟨Bs 16 d, true⟩).set (h.length + 2) ⟨Bs 16 e2, true⟩ = h ++ L := setX (setX (setX XE (Nat.le_refl _) _) (by omega) _) (by omega) _
      have hlen := app_len XE
      refine ⟨m, bx, mx, pl, d, e2, r, x == 0, _, hr, e, cv_app c e, ?_⟩
      (refine AC_begin (fun _ _ => Try.call35 _ _) Try.func35 rfl Try.ntmps35 Try.results35 (fun hwf => ?_); simp only [List.length_cons, List.length_nil, Nat.reduceAdd, Nat.reduceSub, List.replicate, List.cons_append, List.nil_append])
      (repeat (first | ((first | (refine And.intro ?_ ?_; focus exact PLA) | ((first | with_reducible apply callB_i | with_reducible apply callK_intro | with_reducible apply callQ_i); (focus (first | assumption | ((first | with_reducible apply c1 | with_reducible apply c2 | with_reducible apply c3 | with_reducible apply cipS_ac | with_reducible apply c6 | with_reducible apply c4) <;> (first | assumption | rfl | (simp (disch := omega) only [go_sem]; first | done | rfl) | omega | decide | (simp; done))))); (try exact WP_au)) | refine WA_seq (WA_region ?_) | refine WA_region ?_ | refine WA_exit ?_); try simp (maxSteps := 1000000) (disch := first | omega | rfl | decide | (simp only [List.length_cons, List.length_nil, List.length_append, LV] <;> omega)) only [go_sem, Nat.reduceAdd, Int.reduceAdd, Int.reduceSub, Int.reduceMul, Bool.not_true, Bool.not_false, Ci_stC, Ci_splice_all, hc, kc, ky, decide_eq_false hy0, yieldA_at 2 24]) | refine WA_seq ?_ | refine WA_block ?_ | (refine WA_skip ?_; try simp only [go_sem]) | (refine WA_ret ?_; try simp only [go_sem]) | refine WA_ct rfl ?_ | refine WA_cf rfl ?_))
      first | refine WA_seq (WA_rb (id := 7) [6] (SubM.set (SubM.set (SubM.refl _) h.length) (h.length + 1)) mixedOk ?_) | refine WA_rb (id := 7) [6] (SubM.set (SubM.set (SubM.refl _) h.length) (h.length + 1)) mixedOk ?_
      simp only [List.size_toArray, List.length_cons, List.length_nil]
      refine RB_take false [3] 7 (by rfl) (by kernel_rfl) (by decide) (by decide +kernel) ?_
      try simp (maxSteps := 1000000) (disch := first | omega | rfl | decide | (simp only [List.length_cons, List.length_nil, List.length_append, Bs_length] <;> omega)) only [go_sem, Nat.reduceAdd, Ci_stC, Ci_splice_all, KR, KO, KP, hO4, hP4, q0, q1, q2, p0, p1, KC, KY]
      refine RB_take true [0, 1, 2] 4 (by rfl) (by kernel_rfl) (by decide) (by decide +kernel) ?_
      try simp (maxSteps := 1000000) (disch := first | omega | rfl | decide | (simp only [List.length_cons, List.length_nil, List.length_append, Bs_length] <;> omega)) only [go_sem, Nat.reduceAdd, Ci_stC, Ci_splice_all, KR, KO, KP, hO4, hP4, q0, q1, q2, p0, p1, KC, KY]
      refine RB_keep 4 _ (by rfl) (by decide +kernel) (by simp (maxSteps := 1000000) (disch := first | omega | rfl | decide | (simp only [List.length_cons, List.length_nil, List.length_append, Bs_length] <;> omega)) only [go_sem, Nat.reduceAdd, Ci_stC, Ci_splice_all, KR, KO, KP, hO4, hP4, q0, q1, q2, p0, p1, KC, KY]) ?_
      try simp (maxSteps := 1000000) (disch := first | omega | rfl | decide | (simp only [List.length_cons, List.length_nil, List.length_append, Bs_length] <;> omega)) only [go_sem, Nat.reduceAdd, Ci_stC, Ci_splice_all, KR, KO, KP, hO4, hP4, q0, q1, q2, p0, p1, KC, KY]
      refine RB_keep 5 _ (by rfl) (by decide +kernel) (by simp (maxSteps := 1000000) (disch := first | omega | rfl | decide | (simp only [List.length_cons, List.length_nil, List.length_append, Bs_length] <;> omega)) only [go_sem, Nat.reduceAdd, Ci_stC, Ci_splice_all, KR, KO, KP, hO4, hP4, q0, q1, q2, p0, p1, KC, KY]) ?_
      try simp (maxSteps := 1000000) (disch := first | omega | rfl | decide | (simp only [List.length_cons, List.length_nil, List.length_append, Bs_length] <;> omega)) only [go_sem, Nat.reduceAdd, Ci_stC, Ci_splice_all, KR, KO, KP, hO4, hP4, q0, q1, q2, p0, p1, KC, KY]
      refine RB_exec 6 _ (by rfl) (by decide +kernel) (by decide +kernel) ?_
      try simp (maxSteps := 1000000) (disch := first | omega | rfl | decide | (simp only [List.length_cons, List.length_nil, List.length_append, Bs_length] <;> omega)) only [go_sem, Nat.reduceAdd, Ci_stC, Ci_splice_all, KR, KO, KP, hO4, hP4, q0, q1, q2, p0, p1, KC, KY]
      refine RB_take false [7] 0 (by rfl) (by kernel_rfl) (by decide) (by decide +kernel) ?_
      try simp (maxSteps := 1000000) (disch := first | omega | rfl | decide | (simp only [List.length_cons, List.length_nil, List.length_append, Bs_length] <;> omega)) only [go_sem, Nat.reduceAdd, Ci_stC, Ci_splice_all, KR, KO, KP, hO4, hP4, q0, q1, q2, p0, p1, KC, KY]
      refine RB_done (by decide +kernel) ?_
      try simp (maxSteps := 1000000) (disch := first | omega | rfl | decide | (simp only [List.length_cons, List.length_nil, List.length_append, Bs_length] <;> omega)) only [go_sem, Nat.reduceAdd, Ci_stC, Ci_splice_all, KR, KO, KP, hO4, hP4, q0, q1, q2, p0, p1, KC, KY]
      (repeat (first | ((first | (refine And.intro ?_ ?_; focus exact PLA) | refine WA_seq (WA_region ?_) | refine WA_region ?_ | refine WA_exit ?_); try simp (maxSteps := 1000000) (disch := first | omega | rfl | decide | (simp only [List.length_cons, List.length_nil, List.length_append, LV] <;> omega)) only [go_sem, Nat.reduceAdd, Int.reduceAdd, Int.reduceSub, Int.reduceMul, Bool.not_true, Bool.not_false, yieldA_at 2 24]) | refine WA_seq ?_ | refine WA_block ?_ | (refine WA_skip ?_; try simp only [go_sem]) | (refine WA_ret ?_; try simp only [go_sem]) | refine WA_ct rfl ?_ | refine WA_cf rfl ?_))
      refine ret_full (by first | exact .inr rfl | exact .inl rfl) (by simp only [List.length_set]; omega) ?_
      simp (maxSteps := 1000000) (disch := first | omega | rfl | decide | (simp only [List.length_cons, List.length_nil, List.length_append, LV] <;> omega)) only [go_sem, Nat.reduceAdd, Int.reduceAdd, Int.reduceSub, Int.reduceMul, Bool.not_true, Bool.not_false, hR5, hO5, look_set (blt hP4)]
      try rfl

end Go.Proofs.Ytcfpninklbnifaa
/- Matrices: the reduction's second half undoes the first; mixing is additive. Plain. -/
namespace Go.Proofs.Ytcfpninklbnifaa
set_option linter.unusedSimpArgs false
set_option linter.unusedVariables false
set_option maxRecDepth 20000
set_option maxHeartbeats 1000000
open Go.Abs

/-- The sum of the first n products. -/
def dt (m : Nat) (r y : Nat → UInt8) : Nat → UInt8
  | 0 => 0
  | n + 1 => dt m r y n ^^^ tm m (r n) (y n)
theorem dt_cong {m : Nat} {r s y z : Nat → UInt8} : ∀ {n : Nat}, (∀ t, t < n → r t = s t) → (∀ t, t < n → y t = z t) → dt m r y n = dt m s z n
  | 0, _, _ => rfl
  | n + 1, h, h2 => by
    show dt m r y n ^^^ tm m (r n) (y n) = dt m s z n ^^^ tm m (s n) (z n)
    rw [dt_cong (fun t ht => h t (by omega)) (fun t ht => h2 t (by omega)), h n (by omega), h2 n (by omega)]
theorem xor4 (a b c d : UInt8) : (a ^^^ b) ^^^ (c ^^^ d) = (a ^^^ c) ^^^ (b ^^^ d) := by
  rw [UInt8.xor_assoc, UInt8.xor_assoc, ← UInt8.xor_assoc b c d, ← UInt8.xor_assoc c b d, UInt8.xor_comm b c]
section
variable {m : Nat} (h0 : 256 ≤ m) (h1 : m < 512)
include h0 h1
theorem dt_xor (r s y : Nat → UInt8) : ∀ n, dt m (fun t => r t ^^^ s t) y n = dt m r y n ^^^ dt m s y n
  | 0 => UInt8.xor_self.symm
  | n + 1 => by
    show dt m (fun t => r t ^^^ s t) y n ^^^ tm m (r n ^^^ s n) (y n) = (dt m r y n ^^^ tm m (r n) (y n)) ^^^ (dt m s y n ^^^ tm m (s n) (y n))
    rw [dt_xor r s y n, tm_xorL h0 h1, xor4]
omit h0 h1 in
theorem dt_xorR (r y z : Nat → UInt8) : ∀ n, dt m r (fun t => y t ^^^ z t) n = dt m r y n ^^^ dt m r z n
  | 0 => UInt8.xor_self.symm
  | n + 1 => by
    show dt m r (fun t => y t ^^^ z t) n ^^^ tm m (r n) (y n ^^^ z n) = (dt m r y n ^^^ tm m (r n) (y n)) ^^^ (dt m r z n ^^^ tm m (r n) (z n))
    rw [dt_xorR r y z n, tm_xor, xor4]
theorem dt_scl (r y : Nat → UInt8) (v : UInt8) : ∀ n, dt m (fun t => tm m (r t) v) y n = tm m (dt m r y n) v
  | 0 => (tm_zero m v).symm
  | n + 1 => by
    show dt m (fun t => tm m (r t) v) y n ^^^ tm m (tm m (r n) v) (y n) = tm m (dt m r y n ^^^ tm m (r n) (y n)) v
    rw [dt_scl r y v n, tm_xorL h0 h1, tm_assoc h0 h1, tm_comm h0 h1 v, ← tm_assoc h0 h1]
theorem dt_sclL (r y : Nat → UInt8) (f : UInt8) : ∀ n, dt m (fun t => tm m f (r t)) y n = tm m f (dt m r y n)
  | 0 => (tm_zeroR m f).symm
  | n + 1 => by
    show dt m (fun t => tm m f (r t)) y n ^^^ tm m (tm m f (r n)) (y n) = tm m f (dt m r y n ^^^ tm m (r n) (y n))
    rw [dt_sclL r y f n, tm_xor, tm_assoc h0 h1]
end
/-- Row i of a matrix times a column. -/
def D (m : Nat) (x z : Nat → UInt8) (i : Nat) : UInt8 := dt m (fun t => x (i * 4 + t)) z 4
theorem swp_at (x : Nat → UInt8) {p k i t : Nat} (ht : t < 4) : swp x p k (i * 4 + t) = if i = k then x (p * 4 + t) else if i = p then x (k * 4 + t) else x (i * 4 + t) := by
  unfold swp
  by_cases hk : i = k
  · subst hk
    rw [if_pos rfl]
    show (if i * 4 ≤ i * 4 + t ∧ i * 4 + t < i * 4 + 4 then x (p * 4 + (i * 4 + t - i * 4)) else _) = _
    rw [if_pos (by omega)]; congr 1; omega
  · rw [over_out (by omega), if_neg hk]
    by_cases hp : i = p
    · subst hp
      rw [if_pos rfl]
      show (if i * 4 ≤ i * 4 + t ∧ i * 4 + t < i * 4 + 4 then x (k * 4 + (i * 4 + t - i * 4)) else _) = _
      rw [if_pos (by omega)]; congr 1; omega
    · rw [over_out (by omega), if_neg hp]
theorem scl_row (m : Nat) (x : Nat → UInt8) (v : UInt8) {k i t : Nat} (ht : t < 4) : scl m x k v 4 (i * 4 + t) = if i = k then tm m (x (k * 4 + t)) v else x (i * 4 + t) := by
  unfold scl
  by_cases hk : i = k
  · subst hk
    rw [if_pos rfl]
    show (if i * 4 ≤ i * 4 + t ∧ i * 4 + t < i * 4 + 4 then tm m (x (i * 4 + (i * 4 + t - i * 4))) v else _) = _
    rw [if_pos (by omega), show i * 4 + t - i * 4 = t by omega]
  · rw [over_out (by omega), if_neg hk]
theorem elm_row (m : Nat) (f : UInt8) (x : Nat → UInt8) {k r i t : Nat} (ht : t < 4) : elm m f k r x 4 (i * 4 + t) = if i = r then x (r * 4 + t) ^^^ tm m f (x (k * 4 + t)) else x (i * 4 + t) := by
  unfold elm
  by_cases hk : i = r
  · subst hk
    rw [if_pos rfl]
    show (if i * 4 ≤ i * 4 + t ∧ i * 4 + t < i * 4 + 4 then x (i * 4 + (i * 4 + t - i * 4)) ^^^ tm m f (x (k * 4 + (i * 4 + t - i * 4))) else _) = _
    rw [if_pos (by omega), show i * 4 + t - i * 4 = t by omega]
  · rw [over_out (by omega), if_neg hk]
theorem D_swp (m : Nat) (x z : Nat → UInt8) (p k i : Nat) : D m (swp x p k) z i = if i = k then D m x z p else if i = p then D m x z k else D m x z i := by
  unfold D
  by_cases hk : i = k
  · rw [if_pos hk]; exact dt_cong (fun t ht => by rw [swp_at x ht, if_pos hk]) (fun _ _ => rfl)
  · rw [if_neg hk]
    by_cases hp : i = p
    · rw [if_pos hp]; exact dt_cong (fun t ht => by rw [swp_at x ht, if_neg hk, if_pos hp]) (fun _ _ => rfl)
    · rw [if_neg hp]; exact dt_cong (fun t ht => by rw [swp_at x ht, if_neg hk, if_neg hp]) (fun _ _ => rfl)
section
variable {m : Nat} (h0 : 256 ≤ m) (h1 : m < 512)
include h0 h1
theorem D_scl (x z : Nat → UInt8) (v : UInt8) (k i : Nat) : D m (scl m x k v 4) z i = if i = k then tm m (D m x z k) v else D m x z i := by
  unfold D
  by_cases hk : i = k
  · rw [if_pos hk, ← dt_scl h0 h1]; exact dt_cong (fun t ht => by rw [scl_row m x v ht, if_pos hk]) (fun _ _ => rfl)
  · rw [if_neg hk]; exact dt_cong (fun t ht => by rw [scl_row m x v ht, if_neg hk]) (fun _ _ => rfl)
theorem D_elm (x z : Nat → UInt8) (f : UInt8) (k r i : Nat) : D m (elm m f k r x 4) z i = if i = r then D m x z r ^^^ tm m f (D m x z k) else D m x z i := by
  unfold D
  by_cases hk : i = r
  · rw [if_pos hk, ← dt_sclL h0 h1, ← dt_xor h0 h1]; exact dt_cong (fun t ht => by rw [elm_row m f x ht, if_pos hk]) (fun _ _ => rfl)
  · rw [if_neg hk]; exact dt_cong (fun t ht => by rw [elm_row m f x ht, if_neg hk]) (fun _ _ => rfl)
/-- The same steps on both halves keep their images alike. -/
theorem elN_D {a b v y : Nat → UInt8} {k : Nat} (hk : k < 4) (h : ∀ i, i < 4 → D m b v i = D m a y i) : ∀ r, r ≤ 4 → ∀ i, i < 4 → D m (elN m k a b r).2 v i = D m (elN m k a b r).1 y i
  | 0, _, i, hi => h i hi
  | r + 1, hr, i, hi => by
    have ih := elN_D hk h r (by omega)
    by_cases hrk : r = k
    · subst hrk; rw [elN_same]; exact ih i hi
    · rw [elN_other hrk]
      show D m (elm m _ k r _ 4) v i = D m (elm m _ k r _ 4) y i
      rw [D_elm h0 h1, D_elm h0 h1, ih i hi, ih k hk, ih r (by omega)]
theorem stepR_D {k : Nat} {s : RS} {v y : Nat → UInt8} (hk : k < 4) (hp : piv s.a k < 4) (h : ∀ i, i < 4 → D m s.b v i = D m s.a y i) : ∀ i, i < 4 → D m (stepR m k s).b v i = D m (stepR m k s).a y i := by
  refine elN_D h0 h1 hk (fun i hi => ?_) 4 (Nat.le_refl _)
  have hs : ∀ i, i < 4 → D m (swp s.b (piv s.a k) k) v i = D m (swp s.a (piv s.a k) k) y i := fun i hi => by
    rw [D_swp, D_swp, h i hi, h _ hp, h k hk]
  rw [D_scl h0 h1, D_scl h0 h1, hs i hi, hs k hk]
omit h0 h1 in
theorem sing_piv {a : Nat → UInt8} : ∀ {n : Nat}, sing m a n = false → ∀ k, k < n → piv (rs m a k).a k ≠ 4
  | 0, _, k, hk => absurd hk (by omega)
  | n + 1, h, k, hk => by
    rw [sing, Bool.or_eq_false_iff] at h
    by_cases e : k = n
    · subst e; simpa using h.2
    · exact sing_piv h.1 k (by omega)
theorem D_unit (v : Nat → UInt8) {i : Nat} (hi : i < 4) : D m unitF v i = v i := by
  have e : ∀ t, t < 4 → unitF (i * 4 + t) = if t = i then 1 else 0 := fun t ht => by
    unfold unitF unitP
    by_cases h : t = i
    · rw [if_pos h, if_pos (by omega)]
    · rw [if_neg h, if_neg (by omega)]
  show 0 ^^^ tm m (unitF (i * 4 + 0)) (v 0) ^^^ tm m (unitF (i * 4 + 1)) (v 1) ^^^ tm m (unitF (i * 4 + 2)) (v 2) ^^^ tm m (unitF (i * 4 + 3)) (v 3) = v i
  rw [e 0 (by omega), e 1 (by omega), e 2 (by omega), e 3 (by omega)]
  have hcase : i = 0 ∨ i = 1 ∨ i = 2 ∨ i = 3 := by omega
  rcases hcase with rfl | rfl | rfl | rfl <;> simp [tm_zero, tm_one h0 h1]
theorem rs_D (a y : Nat → UInt8) : ∀ k, k ≤ 4 → sing m a k = false → ∀ i, i < 4 → D m (rs m a k).b (D m a y) i = D m (rs m a k).a y i
  | 0, _, _, i, hi => D_unit h0 h1 _ hi
  | k + 1, hk, hs, i, hi => by
    have hp := sing_piv hs k (by omega)
    have hle := piv_le (rs m a k).a (show k < 4 by omega)
    rw [sing, Bool.or_eq_false_iff] at hs
    exact stepR_D h0 h1 (by omega) (by omega) (rs_D a y k (by omega) hs.1) i hi
end
/-- The first k columns are the unit matrix's. -/
def Un (a : Nat → UInt8) (k : Nat) : Prop := ∀ i, i < 4 → ∀ j, j < k → a (i * 4 + j) = if i = j then 1 else 0
section
variable {m : Nat} (h0 : 256 ≤ m) (h1 : m < 512)
theorem elN_key {a b : Nat → UInt8} {k : Nat} (hk : k < 4) : ∀ r, r ≤ 4 → ∀ t, t < 4 → (elN m k a b r).1 (k * 4 + t) = a (k * 4 + t)
  | 0, _, t, _ => rfl
  | r + 1, hr, t, ht => by
    by_cases hrk : r = k
    · subst hrk; rw [elN_same]; exact elN_key hk r (by omega) t ht
    · rw [elN_other hrk]
      show elm m _ k r _ 4 (k * 4 + t) = _
      rw [elm_row m _ _ ht, if_neg (by omega)]
      exact elN_key hk r (by omega) t ht
theorem elN_lo {a b : Nat → UInt8} {k j : Nat} (hk : k < 4) (hj : j < k) (hz : a (k * 4 + j) = 0) : ∀ r, r ≤ 4 → ∀ i, i < 4 → (elN m k a b r).1 (i * 4 + j) = a (i * 4 + j)
  | 0, _, i, _ => rfl
  | r + 1, hr, i, hi => by
    have ih := elN_lo (b := b) hk hj hz r (by omega)
    by_cases hrk : r = k
    · subst hrk; rw [elN_same]; exact ih i hi
    · rw [elN_other hrk]
      show elm m _ k r _ 4 (i * 4 + j) = _
      rw [elm_row m _ _ (by omega)]
      by_cases hir : i = r
      · subst hir
        rw [if_pos rfl, elN_key hk i (by omega) j (by omega), hz, tm_zeroR, UInt8.xor_zero]
        exact ih i hi
      · rw [if_neg hir]; exact ih i hi
include h0 h1 in
theorem elN_col {a b : Nat → UInt8} {k : Nat} (hk : k < 4) (hz : a (k * 4 + k) = 1) : ∀ r, r ≤ 4 → ∀ i, i < r → i ≠ k → (elN m k a b r).1 (i * 4 + k) = 0
  | 0, _, i, hi, _ => absurd hi (by omega)
  | r + 1, hr, i, hi, hik => by
    by_cases hrk : r = k
    · subst hrk; rw [elN_same]; exact elN_col hk hz r (by omega) i (by omega) hik
    · rw [elN_other hrk]
      show elm m _ k r _ 4 (i * 4 + k) = _
      rw [elm_row m _ _ hk]
      by_cases hir : i = r
      · subst hir
        rw [if_pos rfl, elN_key hk i (by omega) k hk, hz, tm_oneR h0 h1, UInt8.xor_self]
      · rw [if_neg hir]; exact elN_col hk hz r (by omega) i (by omega) hik
include h0 h1 in
theorem stepR_U (hf : fieldB m = true) {k : Nat} {s : RS} (hk : k < 4) (hp : piv s.a k < 4) (h : Un s.a k) : Un (stepR m k s).a (k + 1) := by
  have hle := (piv_le s.a hk).1
  have hnz := piv_end hk hp
  generalize hpe : piv s.a k = p at hp hle hnz
  have w : swp s.a p k (k * 4 + k) = s.a (p * 4 + k) := by rw [swp_at s.a hk, if_pos rfl]
  have hw : s.a (p * 4 + k) ≠ 0 := by simpa using hnz
  have hs : Un (swp s.a p k) k := fun i hi j hj => by
    rw [swp_at s.a (by omega)]
    by_cases hik : i = k
    · rw [if_pos hik, h p hp j hj, if_neg (by omega), if_neg (by omega)]
    · rw [if_neg hik]
      by_cases hip : i = p
      · rw [if_pos hip, h k hk j hj, if_neg (by omega), if_neg (by omega)]
      · rw [if_neg hip, h i hi j hj]
  have hc : Un (scl m (swp s.a p k) k (inv m (swp s.a p k (k * 4 + k))) 4) k := fun i hi j hj => by
    rw [scl_row m _ _ (by omega)]
    by_cases hik : i = k
    · rw [if_pos hik, hs k hk j hj, if_neg (by omega), if_neg (by omega), tm_zero]
    · rw [if_neg hik, hs i hi j hj]
  have h11 : scl m (swp s.a p k) k (inv m (swp s.a p k (k * 4 + k))) 4 (k * 4 + k) = 1 := by
    rw [scl_row m _ _ hk, if_pos rfl, w, tm_inv h0 h1 hf hw]
  intro i hi j hj
  unfold stepR
  rw [hpe]
  by_cases hjk : j < k
  · show (elN m k _ _ 4).1 (i * 4 + j) = _
    rw [elN_lo hk hjk (by rw [hc k hk j hjk, if_neg (by omega)]) 4 (by omega) i hi, hc i hi j hjk]
  · have hjk : j = k := by omega
    subst hjk
    show (elN m j _ _ 4).1 (i * 4 + j) = _
    by_cases hij : i = j
    · subst hij
      rw [if_pos rfl, elN_key hi 4 (by omega) i hi, h11]
    · rw [if_neg hij, elN_col h0 h1 hk h11 4 (by omega) i hi hij]
include h0 h1 in
theorem rs_U (hf : fieldB m = true) (a : Nat → UInt8) : ∀ k, k ≤ 4 → sing m a k = false → Un (rs m a k).a k
  | 0, _, _ => fun i _ j hj => absurd hj (by omega)
  | k + 1, hk, hs => by
    have hp := sing_piv hs k (by omega)
    have hle := piv_le (rs m a k).a (show k < 4 by omega)
    rw [sing, Bool.or_eq_false_iff] at hs
    exact stepR_U h0 h1 hf (by omega) (by omega) (rs_U hf a k (by omega) hs.1)
include h0 h1 in
/-- The inverse undoes a matrix. -/
theorem backF_D (hf : fieldB m = true) {a : Nat → UInt8} (hd : detF m a ≠ 0) (y : Nat → UInt8) {i : Nat} (hi : i < 4) : D m (backF m a) (D m a y) i = y i := by
  have hs : sing m a 4 = false := by
    cases hs : sing m a 4 with
    | false => rfl
    | true => exact absurd (by unfold detF; rw [hs]; rfl) hd
  have hb : backF m a = (rs m a 4).b := by unfold backF; rw [hs]; rfl
  rw [hb, rs_D h0 h1 a y 4 (by omega) hs i hi]
  have hU := rs_U h0 h1 hf a 4 (by omega) hs
  rw [← D_unit h0 h1 y hi]
  unfold D
  refine dt_cong (fun t ht => ?_) (fun _ _ => rfl)
  rw [hU i hi t ht]
  unfold unitF unitP
  by_cases h : i = t
  · rw [if_pos h, if_pos (by omega)]
  · rw [if_neg h, if_neg (by omega)]
theorem mix_D (a b : Nat → UInt8) (c i : Nat) : mxP m a b c i 4 = D m a (fun t => b (4 * c + t)) i := rfl
include h0 h1 in
/-- Mixing is undone by mixing with the inverse. -/
theorem mix_back (hf : fieldB m = true) {a : Nat → UInt8} (hd : detF m a ≠ 0) (x : Nat → UInt8) {n : Nat} (hn : n < 16) : mixF m (backF m a) (mixF m a x) n = x n := by
  show mxP m (backF m a) (mixF m a x) (n / 4) (n % 4) 4 = x n
  rw [mix_D]
  have e := backF_D h0 h1 hf hd (fun t => x (4 * (n / 4) + t)) (show n % 4 < 4 by omega)
  rw [show 4 * (n / 4) + n % 4 = n by omega] at e
  rw [← e]
  unfold D
  refine dt_cong (fun _ _ => rfl) (fun t ht => ?_)
  show mxP m a x ((4 * (n / 4) + t) / 4) ((4 * (n / 4) + t) % 4) 4 = _
  rw [show (4 * (n / 4) + t) / 4 = n / 4 by omega, show (4 * (n / 4) + t) % 4 = t by omega]
  rfl
/-- Mixing is additive. -/
theorem mix_xor (a x y : Nat → UInt8) : mixF m a (fun i => x i ^^^ y i) = fun i => mixF m a x i ^^^ mixF m a y i := by
  funext n
  exact dt_xorR (m := m) (fun t => a (n % 4 * 4 + t)) (fun t => x (4 * (n / 4) + t)) (fun t => y (4 * (n / 4) + t)) 4
end
end Go.Proofs.Ytcfpninklbnifaa
/- Inverses of permutations undo them; compositions are permutations. -/
namespace Go.Proofs.Ytcfpninklbnifaa
set_option linter.unusedSimpArgs false
set_option linter.unusedVariables false
set_option maxRecDepth 20000
set_option maxHeartbeats 1000000
open Go.Abs

/-- The inverse leads back. -/
theorem invP_at {f : Nat → UInt8} {n : Nat} (hn : n ≤ 256) (hi : ∀ i j, i < n → j < n → f i = f j → i = j) : ∀ k, k ≤ n → ∀ j, j < k → invP f k (f j).toNat = UInt8.ofNat j
  | 0, _, j, hj => absurd hj (Nat.not_lt_zero j)
  | k + 1, hk, j, hj => by
    show upd (invP f k) (f k).toNat (UInt8.ofNat k) (f j).toNat = UInt8.ofNat j
    unfold upd
    by_cases e : j = k
    · subst e; rw [if_pos rfl]
    · rw [if_neg fun h => e (hi j k (by omega) (by omega) (UInt8.toNat_inj.1 h))]
      exact invP_at hn hi k (by omega) j (by omega)
theorem plOk_inj {p : Nat → UInt8} (h : plOk p = true) : ∀ i j, i < 16 → j < 16 → p i = p j → i = j := by
  unfold plOk at h
  rw [Bool.and_eq_true] at h
  exact (twice_iff p 16).1 (by simpa using h.2)
theorem plOk_surj {p : Nat → UInt8} (h : plOk p = true) {y : Nat} (hy : y < 16) : ∃ i, i < 16 ∧ (p i).toNat = y :=
  inj_surj 16 (fun i => (p i).toNat) (fun i hi => plOk_lt h hi) (fun i j hi hj e => plOk_inj h i j hi hj (UInt8.toNat_inj.1 e)) y hy
theorem invP_pl {p : Nat → UInt8} (h : plOk p = true) {j : Nat} (hj : j < 16) : invP p 16 (p j).toNat = UInt8.ofNat j :=
  invP_at (by omega) (plOk_inj h) 16 (Nat.le_refl _) j hj
theorem pl_invP {p : Nat → UInt8} (h : plOk p = true) {i : Nat} (hi : i < 16) : (p (invP p 16 i).toNat).toNat = i := by
  obtain ⟨j, hj, rfl⟩ := plOk_surj h hi
  rw [invP_pl h hj, u8_ofNat_toNat (by omega)]
/-- Moving back leaves a block. -/
theorem mov_back {p : Nat → UInt8} (h : plOk p = true) (b : Nat → UInt8) {i : Nat} (hi : i < 16) : movF (invP p 16) (movF p b) i = b i := by
  show b (p (invP p 16 i).toNat).toNat = b i
  rw [pl_invP h hi]
theorem mixF_cong {m : Nat} {a b x y : Nat → UInt8} (h : ∀ i, i < 16 → a i = b i) (h2 : ∀ i, i < 16 → x i = y i) {n : Nat} (hn : n < 16) : mixF m a x n = mixF m b y n := by
  show mxP m a x (n / 4) (n % 4) 4 = mxP m b y (n / 4) (n % 4) 4
  rw [mix_D, mix_D]
  unfold D
  exact dt_cong (fun t ht => h _ (by omega)) (fun t ht => h2 _ (by omega))
end Go.Proofs.Ytcfpninklbnifaa
