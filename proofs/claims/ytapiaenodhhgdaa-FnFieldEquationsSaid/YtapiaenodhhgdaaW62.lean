/- Functions of fields: both sides. -/
import Derived.Test.YtapiaenodhhgdaaW61
import Derived.Test.YtapiaenodhhgdaaF8
namespace Go.Proofs.Ytapiaenodhhgdaa
set_option linter.unusedSimpArgs false
set_option linter.unusedVariables false
set_option maxRecDepth 20000
set_option maxHeartbeats 1000000
open Go.Abs

def fcN (m : Int) : Int := cond (fieldB m.toNat) 0 1
def fcZ (m : Int) (a : UInt8) : Int := cond (fieldB m.toNat) (cond (a == 0) 5 0) 1
def fcR (m k : Int) : Int := cond (fieldB m.toNat) (cond (inR k 0 1000000000) 0 2) 1
theorem fcN_ok (m : Int) : (fcN m == 0) = fieldB m.toNat := by unfold fcN; cases fieldB m.toNat <;> rfl
theorem fcZ_ok (m : Int) (a : UInt8) : (fcZ m a == 0) = (fieldB m.toNat && !(a == 0)) := by unfold fcZ; cases fieldB m.toNat <;> cases a == 0 <;> rfl
theorem fcR_ok (m k : Int) : (fcR m k == 0) = (fieldB m.toNat && inR k 0 1000000000) := by unfold fcR; cases fieldB m.toNat <;> cases inR k 0 1000000000 <;> rfl
def tmI (m : Int) (a b : UInt8) : UInt8 := cond (fieldB m.toNat) (tm m.toNat a b) 0
def ivI (m : Int) (a : UInt8) : UInt8 := cond (fieldB m.toNat && !(a == 0)) (inv m.toNat a) 0
def odI (m : Int) (a : UInt8) : Int := cond (fieldB m.toNat && !(a == 0)) ((ordN m.toNat a : Nat) : Int) 0
def pwI (m : Int) (a : UInt8) (k : Int) : UInt8 := cond (fieldB m.toNat && inR k 0 1000000000) (po m.toNat a k.toNat) 0
theorem u8_add1 (n : Nat) : UInt8.ofNat n + 1 = UInt8.ofNat (n + 1) := (UInt8.ofNat_add n 1).symm
theorem u8_nz {n : Nat} (h0 : 0 < n) (h : n < 256) : UInt8.ofNat n ≠ 0 := fun e => by
  have := congrArg UInt8.toNat e
  rw [u8_ofNat_toNat h] at this
  have h2 : (0 : UInt8).toNat = 0 := rfl
  omega

theorem timI_ac (m : Int) (a b : UInt8) (h : List Blk) : AC Try.prog 12 [.int .i64 m, B a, B b] h (.tuple #[B (tmI m a b), .int .i64 (fcN m)]) h := by
  cases hf : fieldB m.toNat
  · (refine AC_begin (fun _ _ => Try.call12 _ _) Try.func12 rfl Try.ntmps12 Try.results12 (fun hwf => ?_); simp only [List.length_cons, List.length_nil, Nat.reduceAdd, Nat.reduceSub, List.replicate, List.cons_append, List.nil_append])
    (repeat (first | ((first | (refine And.intro ?_ ?_; focus (first | exact plain_agg (by simp only [go_sem]) | exact plain_two (by first | exact plain_agg (by simp only [go_sem]) | rfl) rfl | rfl)) | ((first | with_reducible apply callB_i | with_reducible apply callK_intro | with_reducible apply callQ_i); (focus (first | assumption | (with_reducible apply isField_ac <;> (first | assumption | rfl | (simp (disch := omega) only [go_sem]; first | done | rfl) | omega | decide | (simp; done))))); (try (focus (refine WP.mk ?_ ?_; (focus ((repeat (first | exact trivial | (refine And.intro ?_ ?_; (focus first | exact plainV_wf rfl | (refine plainV_wf (plain_agg ?_); simp only [go_sem]; done) | (simp only [wfV, wf1, wfC, List.length_append, List.length_cons, List.length_nil]; omega))))))); (focus (first | rfl | (refine plain_agg ?_; simp only [go_sem]; done) | (refine plain_two ?_ ?_ <;> first | rfl | (refine plain_agg ?_; simp only [go_sem]; done)))))))) | refine WA_seq (WA_region ?_) | refine WA_region ?_ | refine WA_exit ?_); try simp (maxSteps := 1000000) (disch := first | omega | rfl | decide | (simp only [List.length_cons, List.length_nil, List.length_append, Bs_length, Is_length, Vs_length, Bl_length, Il_length] <;> omega)) only [go_sem, Nat.reduceAdd, Int.reduceAdd, Int.reduceSub, Int.reduceMul, Bool.not_true, Bool.not_false, hf, Bool.not_false]) | refine WA_seq ?_ | refine WA_block ?_ | (refine WA_skip ?_; try simp only [go_sem]) | (refine WA_ret ?_; try simp only [go_sem]) | (refine WA_cond_t rfl ?_ ?_; focus (first | with_reducible rfl | with_reducible exact beq_self_eq_true _ | exact decide_eq_true (by omega) | exact beq_t (by omega) | exact bne_t (by omega) | assumption)) | (refine WA_cond_f rfl ?_ ?_; focus (first | with_reducible rfl | with_reducible exact bne_self_eq_false _ | exact decide_eq_false (by omega) | exact beq_f (by omega) | exact bne_f (by omega) | assumption))))
    ((first | refine ret_none (by first | exact .inr rfl | exact .inl rfl) ?_ | refine ret_same (by first | exact .inr rfl | exact .inl rfl) ?_ (by first | rfl | exact plain_agg (by simp only [go_sem]) | exact plain_two (by first | exact plain_agg (by simp only [go_sem]) | rfl) (by first | exact plain_agg (by simp only [go_sem]) | rfl)) | refine ret_full (by first | exact .inr rfl | exact .inl rfl) (by simp) ?_); simp (maxSteps := 1000000) (disch := first | omega | rfl | decide | (simp only [List.length_cons, List.length_nil, List.length_append, Bs_length, Is_length, Vs_length, Bl_length, Il_length] <;> omega)) only [go_sem, Nat.reduceAdd, Int.reduceAdd, Int.reduceSub, Int.reduceMul, Bool.not_true, Bool.not_false, tmI, fcN, hf, cond_false]; try rfl)
  · obtain ⟨n, rfl, hn, h0, h1⟩ := fieldB_nat hf
    (refine AC_begin (fun _ _ => Try.call12 _ _) Try.func12 rfl Try.ntmps12 Try.results12 (fun hwf => ?_); simp only [List.length_cons, List.length_nil, Nat.reduceAdd, Nat.reduceSub, List.replicate, List.cons_append, List.nil_append])
    (repeat (first | ((first | (refine And.intro ?_ ?_; focus (first | exact plain_agg (by simp only [go_sem]) | exact plain_two (by first | exact plain_agg (by simp only [go_sem]) | rfl) rfl | rfl)) | ((first | with_reducible apply callB_i | with_reducible apply callK_intro | with_reducible apply callQ_i); (focus (first | assumption | ((first | with_reducible apply isField_ac | with_reducible apply tmI_ac h0 h1) <;> (first | assumption | rfl | (simp (disch := omega) only [go_sem]; first | done | rfl) | omega | decide | (simp; done))))); (try (focus (refine WP.mk ?_ ?_; (focus ((repeat (first | exact trivial | (refine And.intro ?_ ?_; (focus first | exact plainV_wf rfl | (refine plainV_wf (plain_agg ?_); simp only [go_sem]; done) | (simp only [wfV, wf1, wfC, List.length_append, List.length_cons, List.length_nil]; omega))))))); (focus (first | rfl | (refine plain_agg ?_; simp only [go_sem]; done) | (refine plain_two ?_ ?_ <;> first | rfl | (refine plain_agg ?_; simp only [go_sem]; done)))))))) | refine WA_seq (WA_region ?_) | refine WA_region ?_ | refine WA_exit ?_); try simp (maxSteps := 1000000) (disch := first | omega | rfl | decide | (simp only [List.length_cons, List.length_nil, List.length_append, Bs_length, Is_length, Vs_length, Bl_length, Il_length] <;> omega)) only [go_sem, Nat.reduceAdd, Int.reduceAdd, Int.reduceSub, Int.reduceMul, Bool.not_true, Bool.not_false, hn, Bool.not_true]) | refine WA_seq ?_ | refine WA_block ?_ | (refine WA_skip ?_; try simp only [go_sem]) | (refine WA_ret ?_; try simp only [go_sem]) | (refine WA_cond_t rfl ?_ ?_; focus (first | with_reducible rfl | with_reducible exact beq_self_eq_true _ | exact decide_eq_true (by omega) | exact beq_t (by omega) | exact bne_t (by omega) | assumption)) | (refine WA_cond_f rfl ?_ ?_; focus (first | with_reducible rfl | with_reducible exact bne_self_eq_false _ | exact decide_eq_false (by omega) | exact beq_f (by omega) | exact bne_f (by omega) | assumption))))
    ((first | refine ret_none (by first | exact .inr rfl | exact .inl rfl) ?_ | refine ret_same (by first | exact .inr rfl | exact .inl rfl) ?_ (by first | rfl | exact plain_agg (by simp only [go_sem]) | exact plain_two (by first | exact plain_agg (by simp only [go_sem]) | rfl) (by first | exact plain_agg (by simp only [go_sem]) | rfl)) | refine ret_full (by first | exact .inr rfl | exact .inl rfl) (by simp) ?_); simp (maxSteps := 1000000) (disch := first | omega | rfl | decide | (simp only [List.length_cons, List.length_nil, List.length_append, Bs_length, Is_length, Vs_length, Bl_length, Il_length] <;> omega)) only [go_sem, Nat.reduceAdd, Int.reduceAdd, Int.reduceSub, Int.reduceMul, Bool.not_true, Bool.not_false, tmI, fcN, hn, cond_true, Int.toNat_natCast]; try rfl)

/-- The least exponent, or 256. -/
def lgC (m : Nat) (g a : UInt8) : Nat := skip (fun k => !(powN m g k == a)) 256 0
def lgI (m : Int) (g a : UInt8) : Int := cond (fieldB m.toNat && decide (lgC m.toNat g a < 256)) ((lgC m.toNat g a : Nat) : Int) 0
def fcL (m : Int) (g a : UInt8) : Int := cond (fieldB m.toNat) (cond (decide (lgC m.toNat g a < 256)) 0 4) 1
theorem fcL_ok (m : Int) (g a : UInt8) : (fcL m g a == 0) = (fieldB m.toNat && decide (lgC m.toNat g a < 256)) := by unfold fcL; cases fieldB m.toNat <;> cases decide (lgC m.toNat g a < 256) <;> rfl
theorem lgC_go {m : Nat} {g a : UInt8} {k : Nat} (h : k < lgC m g a) : (powN m g k == a) = false := by
  have := skip_go _ _ _ h
  rw [Nat.zero_add] at this
  simpa using this
theorem lgC_le (m : Nat) (g a : UInt8) : lgC m g a ≤ 256 := skip_le _ _ _
theorem lgC_end {m : Nat} {g a : UInt8} (h : lgC m g a < 256) : (powN m g (lgC m g a) == a) = true := by
  have := skip_end (p := fun k => !(powN m g k == a)) 256 0 h
  rw [Nat.zero_add] at this
  simpa [lgC] using this
end Go.Proofs.Ytapiaenodhhgdaa
