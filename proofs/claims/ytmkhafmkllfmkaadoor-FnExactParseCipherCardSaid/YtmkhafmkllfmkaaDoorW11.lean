/- DeterminantIn, InverseMatrix. -/
import Derived.Test.YtmkhafmkllfmkaaDoorW9
import Derived.Test.YtmkhafmkllfmkaaDoorW10
namespace Go.Proofs.YtmkhafmkllfmkaaDoor
set_option linter.unusedSimpArgs false
set_option linter.unusedVariables false
set_option maxRecDepth 20000
set_option maxHeartbeats 1000000
open Go.Abs

def codeF (m : Int) : Int := if fieldB m.toNat then 0 else 1
theorem inverseS_ac {m : Nat} (h0 : 256 ≤ m) (h1 : m < 512) (a : Nat → UInt8) (h : List Blk) : AC Tryd.prog 35 [.int .i64 m, .agg (Bs 16 a).toArray] h (.tuple #[.agg (Bs 16 (backF m a)).toArray, .bool (detF m a != 0)]) h := by
  (refine AC_begin (fun _ _ => Tryd.call35 _ _) Tryd.func35 rfl Tryd.ntmps35 Tryd.results35 (fun hwf => ?_); simp only [List.length_cons, List.length_nil, Nat.reduceAdd, Nat.reduceSub, List.replicate, List.cons_append, List.nil_append])
  (repeat (first | ((first | (refine And.intro ?_ ?_; focus (first | exact plain_agg (by simp only [go_sem]) | exact plain_two (by first | exact plain_agg (by simp only [go_sem]) | rfl) rfl | rfl)) | ((first | with_reducible apply callB_i | with_reducible apply callK_intro | with_reducible apply callQ_i); (focus (first | assumption | (with_reducible apply redS_ac h0 h1 <;> (first | assumption | rfl | (simp (disch := omega) only [go_sem]; first | done | rfl) | omega | decide | (simp; done))))); (try (focus (refine WP.mk ?_ ?_; (focus ((repeat (first | exact trivial | (refine And.intro ?_ ?_; (focus first | exact plainV_wf rfl | (refine plainV_wf (plain_agg ?_); simp only [go_sem]; done) | (simp only [wfV, wf1, wfC, List.length_append, List.length_cons, List.length_nil]; omega))))))); (focus (first | rfl | (refine plain_agg ?_; simp only [go_sem]; done) | (refine plain_two ?_ ?_ <;> first | rfl | (refine plain_agg ?_; simp only [go_sem]; done)))))))) | refine WA_seq (WA_region ?_) | refine WA_region ?_ | refine WA_exit ?_); try simp (maxSteps := 1000000) (disch := first | omega | rfl | decide | (simp only [List.length_cons, List.length_nil, List.length_append, Bs_length, Is_length, Vs_length, Bl_length, Il_length] <;> omega)) only [go_sem, Nat.reduceAdd, Int.reduceAdd, Int.reduceSub, Int.reduceMul, Bool.not_true, Bool.not_false]) | refine WA_seq ?_ | refine WA_block ?_ | (refine WA_skip ?_; try simp only [go_sem]) | (refine WA_ret ?_; try simp only [go_sem]) | (refine WA_cond_t rfl ?_ ?_; focus (first | with_reducible rfl | with_reducible exact beq_self_eq_true _ | exact decide_eq_true (by omega) | exact beq_t (by omega) | exact bne_t (by omega) | assumption)) | (refine WA_cond_f rfl ?_ ?_; focus (first | with_reducible rfl | with_reducible exact bne_self_eq_false _ | exact decide_eq_false (by omega) | exact beq_f (by omega) | exact bne_f (by omega) | assumption))))
  ((first | refine ret_none (by first | exact .inr rfl | exact .inl rfl) ?_ | refine ret_same (by first | exact .inr rfl | exact .inl rfl) ?_ (by first | rfl | exact plain_agg (by simp only [go_sem]) | exact plain_two (by first | exact plain_agg (by simp only [go_sem]) | rfl) (by first | exact plain_agg (by simp only [go_sem]) | rfl)) | refine ret_full (by first | exact .inr rfl | exact .inl rfl) (by simp) ?_); simp (maxSteps := 1000000) (disch := first | omega | rfl | decide | (simp only [List.length_cons, List.length_nil, List.length_append, Bs_length, Is_length, Vs_length, Bl_length, Il_length] <;> omega)) only [go_sem, Nat.reduceAdd, Int.reduceAdd, Int.reduceSub, Int.reduceMul, Bool.not_true, Bool.not_false]; try rfl)

def invMF (m : Int) (a : Nat → UInt8) : Nat → UInt8 := if fieldB m.toNat && detF m.toNat a != 0 then backF m.toNat a else zeroF
def invMC (m : Int) (a : Nat → UInt8) : Int := if fieldB m.toNat then (if detF m.toNat a != 0 then 0 else 5) else 1
end Go.Proofs.YtmkhafmkllfmkaaDoor
