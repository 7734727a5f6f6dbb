/- CauchyMatrix. -/
import Derived.Test.YtalbdgkbinndlaaDoorAbsSh
import Derived.Test.YtalbdgkbinndlaaDoorW15
import Derived.Test.YtalbdgkbinndlaaDoorW8
namespace Go.Proofs.YtalbdgkbinndlaaDoor
set_option linter.unusedSimpArgs false
set_option linter.unusedVariables false
set_option maxRecDepth 20000
set_option maxHeartbeats 1000000
open Go.Abs

theorem indexByte_neg : ∀ (l : List UInt8) (x : UInt8), decide (0 ≤ Lib.indexByte l x) = l.any fun y => x == y
  | [], _ => rfl
  | y :: l, x => by
    have ih := indexByte_neg l x
    rw [List.any_cons, ← ih, Lib.indexByte]
    by_cases h : y = x
    · subst h; simp
    · have h1 : (y == x) = false := by simpa using h
      have h2 : (x == y) = false := by simpa using fun e => h e.symm
      have h3 := Lib.indexByte_ge l x
      rw [h1, h2, Bool.false_or, if_neg (by simp)]
      by_cases h4 : Lib.indexByte l x = -1
      · rw [h4]; rfl
      · rw [if_neg (by simpa using h4), decide_eq_decide]; omega
theorem indexByte_twice (f : Nat → UInt8) (i : Nat) : decide (0 ≤ Lib.indexByte ((List.range i).map fun j => f (0 + j)) (f i)) = twiceAt f i i := by
  rw [indexByte_neg, List.any_map]; unfold twiceAt; congr 1; funext j; simp

theorem areDifferent_ac {h : List Blk} {b n : Nat} {f : Nat → UInt8} {r : Bool} (hb : h[b]? = some ⟨Bs n f, r⟩) (hn : n ≤ 140737488355328) : AC Tryd.prog 33 [sl b 0 n 1] h (.bool (!twiceP f n)) h := by
  (refine AC_begin (fun _ _ => Tryd.call33 _ _) Tryd.func33 rfl Tryd.ntmps33 Tryd.results33 (fun hwf => ?_); simp only [List.length_cons, List.length_nil, Nat.reduceAdd, Nat.reduceSub, List.replicate, List.cons_append, List.nil_append])
  (refine sN0 ?_)
  refine WA_forHJ (fun k => twiceP f k = false) (fun k => [(2, J), (3, J), (4, J), (7, .int .i64 k), (8, J), (9, J), (10, J), (11, J), (12, J), (13, J), (14, J), (15, J), (16, J), (17, J), (18, J)]) (fun k => h) (n) ?_ ?_ ?_ ?_ <;> (try simp only [patT_cons, patT_nil, patL_cons, patL_nil, list_set_zero, list_set_succ, blk_set_zero, blk_set_succ])
  · rfl
  · (exact sS0)
  · intro i hi hJ
    have ht := indexByte_twice f i
    have hib := indexByte_ac hb (o := 0) (n := i) (by omega) (f i)
    simp only [Nat.zero_add] at ht hib
    cases he : twiceAt f i i <;> rw [he] at ht
    · (refine sW (And.intro @hb @ht) @hib ?_)
      refine ⟨twiceP_s hJ he, ?_⟩
      (exact sS0)
    · (refine sW (And.intro @hb @ht) @hib ?_)
      (exact sR (twiceP_t hi he))
  · intro hJ
    (refine sN0 ?_)
    (exact sR @hJ)

/-- The matrix of the inverses of the sums. -/
def cauF (m : Nat) (f g : Nat → UInt8) : Nat → UInt8 := fun n => inv m (f (n / 4) ^^^ g (n % 4))
theorem cau_at {m i j : Nat} {f g : Nat → UInt8} (hj : j < 4) : inv m (f i ^^^ g j) = cauF m f g (i * 4 + j) := by
  unfold cauF; rw [show (i * 4 + j) / 4 = i by omega, show (i * 4 + j) % 4 = j by omega]
theorem cauchyS_ac {m : Nat} (h0 : 256 ≤ m) (h1 : m < 512) {h : List Blk} {b b' : Nat} {f g : Nat → UInt8} {r r' : Bool} (hb : h[b]? = some ⟨Bs 4 f, r⟩) (hb' : h[b']? = some ⟨Bs 4 g, r'⟩) : AC Tryd.prog 38 [.int .i64 m, sl b 0 4 1, sl b' 0 4 1] h (.agg (Bs 16 (cauF m f g)).toArray) h := by
  have hbl := blt hb
  have hbl' := blt hb'
  (refine AC_begin (fun _ _ => Tryd.call38 _ _) Tryd.func38 rfl Tryd.ntmps38 Tryd.results38 (fun hwf => ?_); simp only [List.length_cons, List.length_nil, Nat.reduceAdd, Nat.reduceSub, List.replicate, List.cons_append, List.nil_append])
  (refine sN0 ?_)
  refine WA_forP (fun k => [(8, .int .i64 k), (9, J), (11, J), (12, J), (13, J), (14, J), (15, J), (16, J), (17, J), (18, J), (19, J), (20, J), (21, J), (22, J), (23, J), (24, J), (25, J), (26, J), (27, J), (28, J), (29, J), (30, J), (31, J), (32, J), (33, J)]) (fun k => [(1, ⟨Bs 16 (pre (k * 4) (cauF m f g) fun _ => 0), true⟩)]) (4) ?_ ?_ ?_ <;> (try simp only [patT_cons, patT_nil, patL_cons, patL_nil, list_set_zero, list_set_succ, blk_set_zero, blk_set_succ])
  · rw [Nat.zero_mul, pre_zero]
    (exact sS0)
  · intro i hi
    (refine sN0 ?_)
    refine WA_forP (fun k => [(9, .int .i64 k), (15, J), (16, J), (17, J), (18, J), (19, J), (20, J), (21, J), (22, J), (23, J), (24, J), (25, J), (26, J), (27, J), (28, J), (29, J), (30, J), (31, J), (32, J), (33, J)]) (fun k => [(1, ⟨Bs 16 (pre (i * 4 + k) (cauF m f g) fun _ => 0), true⟩)]) (4) ?_ ?_ ?_ <;> (try simp only [patT_cons, patT_nil, patL_cons, patL_nil, list_set_zero, list_set_succ, blk_set_zero, blk_set_succ])
    · (exact sS0)
    · intro j hj
      (repeat (first | ((first | (refine And.intro ?_ ?_; focus (first | exact plain_agg (by simp only [go_sem]) | exact plain_two (by first | exact plain_agg (by simp only [go_sem]) | rfl) rfl | rfl)) | ((first | with_reducible apply callB_i | with_reducible apply callK_intro | with_reducible apply callQ_i); (focus (first | assumption | (with_reducible apply invS_ac h0 h1 <;> (first | assumption | rfl | (simp (disch := omega) only [go_sem]; first | done | rfl) | omega | decide | (simp; done))))); (try (focus (refine WP.mk ?_ ?_; (focus ((repeat (first | exact trivial | (refine And.intro ?_ ?_; (focus first | exact plainV_wf rfl | (refine plainV_wf (plain_agg ?_); simp only [go_sem]; done) | (simp only [wfV, wf1, wfC, List.length_append, List.length_cons, List.length_nil]; omega))))))); (focus (first | rfl | (refine plain_agg ?_; simp only [go_sem]; done) | (refine plain_two ?_ ?_ <;> first | rfl | (refine plain_agg ?_; simp only [go_sem]; done)))))))) | refine WA_seq (WA_region ?_) | refine WA_region ?_ | refine WA_exit ?_); try simp (maxSteps := 1000000) (disch := first | omega | rfl | decide | (simp only [List.length_cons, List.length_nil, List.length_append, Bs_length, Is_length, Vs_length, Bl_length, Il_length] <;> omega)) only [go_sem, Nat.reduceAdd, Int.reduceAdd, Int.reduceSub, Int.reduceMul, Bool.not_true, Bool.not_false, look_old hb, look_old hb', cau_at hj, upd_pre]) | (refine (WA_rb (id := 8) [15] (SubM.refl _) mixedOk ?_); simp only [List.size_toArray, List.length_cons, List.length_nil]; (repeat (first | ((first | (refine And.intro ?_ ?_; focus (first | exact plain_agg (by simp only [go_sem]) | exact plain_two (by first | exact plain_agg (by simp only [go_sem]) | rfl) rfl | rfl)) | ((first | with_reducible apply callB_i | with_reducible apply callK_intro | with_reducible apply callQ_i); (focus (first | assumption | (with_reducible apply invS_ac h0 h1 <;> (first | assumption | rfl | (simp (disch := omega) only [go_sem]; first | done | rfl) | omega | decide | (simp; done))))); (try (focus (refine WP.mk ?_ ?_; (focus ((repeat (first | exact trivial | (refine And.intro ?_ ?_; (focus first | exact plainV_wf rfl | (refine plainV_wf (plain_agg ?_); simp only [go_sem]; done) | (simp only [wfV, wf1, wfC, List.length_append, List.length_cons, List.length_nil]; omega))))))); (focus (first | rfl | (refine plain_agg ?_; simp only [go_sem]; done) | (refine plain_two ?_ ?_ <;> first | rfl | (refine plain_agg ?_; simp only [go_sem]; done)))))))) | refine RB_take false [0, 1, 2, 3, 4, 5, 7, 8, 9, 13] 6 (by rfl) (by kernel_rfl) (by decide) (by decide +kernel) ?_ | refine RB_take true [6, 10] 4 (by rfl) (by kernel_rfl) (by decide) (by decide +kernel) ?_ | refine RB_take false [11] 3 (by rfl) (by kernel_rfl) (by decide) (by decide +kernel) ?_ | refine RB_take true [12] 2 (by rfl) (by kernel_rfl) (by decide) (by decide +kernel) ?_ | refine RB_take false [14] 1 (by rfl) (by kernel_rfl) (by decide) (by decide +kernel) ?_ | refine RB_exec 15 _ (by rfl) (by decide +kernel) (by decide +kernel) ?_ | refine RB_done (by decide +kernel) ?_); try simp (maxSteps := 1000000) (disch := first | omega | rfl | decide | (simp only [List.length_cons, List.length_nil, List.length_append, Bs_length, Is_length, Vs_length, Bl_length, Il_length] <;> omega)) only [go_sem, Nat.reduceAdd, Int.reduceAdd, Int.reduceSub, Int.reduceMul, Bool.not_true, Bool.not_false, look_old hb, look_old hb', cau_at hj, upd_pre])))) | refine WA_seq ?_ | refine WA_block ?_ | (refine WA_skip ?_; try simp only [go_sem]) | (refine WA_ret ?_; try simp only [go_sem]) | (refine WA_cond_t rfl ?_ ?_; focus (first | with_reducible rfl | with_reducible exact beq_self_eq_true _ | exact decide_eq_true (by omega) | exact beq_t (by omega) | exact bne_t (by omega) | assumption)) | (refine WA_cond_f rfl ?_ ?_; focus (first | with_reducible rfl | with_reducible exact bne_self_eq_false _ | exact decide_eq_false (by omega) | exact beq_f (by omega) | exact bne_f (by omega) | assumption))))
      (exact sS0)
    · (refine sN0 ?_)
      rw [show (i + 1) * 4 = i * 4 + 4 by omega]
      (exact sS0)
  · (refine sN0 ?_)
    (exact sR @Bs_pre)

end Go.Proofs.YtalbdgkbinndlaaDoor
