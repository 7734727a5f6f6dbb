/- A part of the proof of FnCiphers. -/
import Derived.Test.YtcfpninklbnifaaQCQH
import Derived.Test.YtcfpninklbnifaaQCQ1
import Derived.Test.YtcfpninklbnifaaQCQ6
import Derived.Test.YtcfpninklbnifaaQCQ7
/- Decipher, DecipherShort. -/
namespace Go.Proofs.Ytcfpninklbnifaa
set_option linter.unusedSimpArgs false
set_option linter.unusedVariables false
set_option maxRecDepth 20000
set_option maxHeartbeats 1000000
open Go.Abs

theorem decOS_ac (m : Int) (bx mx pl y s : Nat → UInt8) (r n : Int) (h : List Blk) : AC Try.prog 19 [.agg (Ci m bx mx pl r).toArray, .agg (Bs 16 y).toArray, .agg (Bs 16 s).toArray, .int .i64 n] h
    (.tuple #[.agg (Bs 16 (cond (cipB m bx mx pl r && inR n 0 r) (decF m.toNat bx mx pl y s n.toNat) zeroF)).toArray, .int .i64 (codeN m bx mx pl r n)]) h := by
  have hk := codeS_ac m bx mx pl r n
  cases hc : cipB m bx mx pl r
  · have e := codeN_bad hc n
    rw [e] at hk ⊢
    (refine AC_begin (fun _ _ => Try.call19 _ _) Try.func19 rfl Try.ntmps19 Try.results19 (fun hwf => ?_); simp only [List.length_cons, List.length_nil, Nat.reduceAdd, Nat.reduceSub, List.replicate, List.cons_append, List.nil_append])
    (repeat (first | ((first | (refine And.intro ?_ ?_; focus exact PLA) | ((first | with_reducible apply callB_i | with_reducible apply callK_intro | with_reducible apply callQ_i); (focus (first | assumption | (with_reducible apply hk <;> (first | assumption | rfl | (simp (disch := omega) only [go_sem]; first | done | rfl) | omega | decide | (simp; done))))); (try exact WP_au)) | refine WA_seq (WA_region ?_) | refine WA_region ?_ | refine WA_exit ?_); try simp (maxSteps := 1000000) (disch := first | omega | rfl | decide | (simp only [List.length_cons, List.length_nil, List.length_append, Bs_length, Is_length, Vs_length, Bl_length, Il_length] <;> omega)) only [go_sem, Nat.reduceAdd, Int.reduceAdd, Int.reduceSub, Int.reduceMul, Bool.not_true, Bool.not_false, show ((1 : Int) != 0) = true from rfl]) | refine WA_seq ?_ | refine WA_block ?_ | (refine WA_skip ?_; try simp only [go_sem]) | (refine WA_ret ?_; try simp only [go_sem]) | refine WA_ct rfl ?_ | refine WA_cf rfl ?_))
    ((first | refine ret_nA ?_ | refine ret_sA ?_ | refine ret_fA ?_); simp (maxSteps := 1000000) (disch := first | omega | rfl | decide | (simp only [List.length_cons, List.length_nil, List.length_append, Bs_length, Is_length, Vs_length, Bl_length, Il_length] <;> omega)) only [go_sem, Nat.reduceAdd, Int.reduceAdd, Int.reduceSub, Int.reduceMul, Bool.not_true, Bool.not_false, Bool.false_and, cond_false, zeroF]; try rfl)
  · cases hi : inR n 0 r
    · have e := codeN_out hc hi
      rw [e] at hk ⊢
      (refine AC_begin (fun _ _ => Try.call19 _ _) Try.func19 rfl Try.ntmps19 Try.results19 (fun hwf => ?_); simp only [List.length_cons, List.length_nil, Nat.reduceAdd, Nat.reduceSub, List.replicate, List.cons_append, List.nil_append])
      (repeat (first | ((first | (refine And.intro ?_ ?_; focus exact PLA) | ((first | with_reducible apply callB_i | with_reducible apply callK_intro | with_reducible apply callQ_i); (focus (first | assumption | (with_reducible apply hk <;> (first | assumption | rfl | (simp (disch := omega) only [go_sem]; first | done | rfl) | omega | decide | (simp; done))))); (try exact WP_au)) | refine WA_seq (WA_region ?_) | refine WA_region ?_ | refine WA_exit ?_); try simp (maxSteps := 1000000) (disch := first | omega | rfl | decide | (simp only [List.length_cons, List.length_nil, List.length_append, Bs_length, Is_length, Vs_length, Bl_length, Il_length] <;> omega)) only [go_sem, Nat.reduceAdd, Int.reduceAdd, Int.reduceSub, Int.reduceMul, Bool.not_true, Bool.not_false, show ((2 : Int) != 0) = true from rfl]) | refine WA_seq ?_ | refine WA_block ?_ | (refine WA_skip ?_; try simp only [go_sem]) | (refine WA_ret ?_; try simp only [go_sem]) | refine WA_ct rfl ?_ | refine WA_cf rfl ?_))
      ((first | refine ret_nA ?_ | refine ret_sA ?_ | refine ret_fA ?_); simp (maxSteps := 1000000) (disch := first | omega | rfl | decide | (simp only [List.length_cons, List.length_nil, List.length_append, Bs_length, Is_length, Vs_length, Bl_length, Il_length] <;> omega)) only [go_sem, Nat.reduceAdd, Int.reduceAdd, Int.reduceSub, Int.reduceMul, Bool.not_true, Bool.not_false, Bool.true_and, cond_false, zeroF]; try rfl)
    · have e := codeN_ok hc hi
      rw [e] at hk ⊢
      obtain ⟨p, rfl, h0, h1, _, _, hp, q, rfl, _, hq⟩ := cipB_nat hc
      obtain ⟨k, rfl, hkq⟩ := inR_up hi
      have hp' : ∀ i, i < 16 → (pl i).toNat < 16 := fun i hi => plOk_lt hp hi
      (refine AC_begin (fun _ _ => Try.call19 _ _) Try.func19 rfl Try.ntmps19 Try.results19 (fun hwf => ?_); simp only [List.length_cons, List.length_nil, Nat.reduceAdd, Nat.reduceSub, List.replicate, List.cons_append, List.nil_append])
      (repeat (first | ((first | (refine And.intro ?_ ?_; focus exact PLA) | ((first | with_reducible apply callB_i | with_reducible apply callK_intro | with_reducible apply callQ_i); (focus (first | assumption | ((first | with_reducible apply hk | with_reducible apply decS_ac h0 h1 _ _ _ hp _ _ (n := k) (by omega)) <;> (first | assumption | rfl | (simp (disch := omega) only [go_sem]; first | done | rfl) | omega | decide | (simp; done))))); (try exact WP_au)) | refine WA_seq (WA_region ?_) | refine WA_region ?_ | refine WA_exit ?_); try simp (maxSteps := 1000000) (disch := first | omega | rfl | decide | (simp only [List.length_cons, List.length_nil, List.length_append, Bs_length, Is_length, Vs_length, Bl_length, Il_length] <;> omega)) only [go_sem, Nat.reduceAdd, Int.reduceAdd, Int.reduceSub, Int.reduceMul, Bool.not_true, Bool.not_false, bne_self_eq_false]) | refine WA_seq ?_ | refine WA_block ?_ | (refine WA_skip ?_; try simp only [go_sem]) | (refine WA_ret ?_; try simp only [go_sem]) | refine WA_ct rfl ?_ | refine WA_cf rfl ?_))
      ((first | refine ret_nA ?_ | refine ret_sA ?_ | refine ret_fA ?_); simp (maxSteps := 1000000) (disch := first | omega | rfl | decide | (simp only [List.length_cons, List.length_nil, List.length_append, Bs_length, Is_length, Vs_length, Bl_length, Il_length] <;> omega)) only [go_sem, Nat.reduceAdd, Int.reduceAdd, Int.reduceSub, Int.reduceMul, Bool.not_true, Bool.not_false, Bool.and_self, cond_true, Int.toNat_natCast]; try rfl)

theorem decOI_ac (m : Int) (bx mx pl y s : Nat → UInt8) (r n : Int) (h : List Blk) : AC Try.prog 18 [.agg (Ci m bx mx pl r).toArray, .agg (Bs 16 y).toArray, .agg (Bs 16 s).toArray, .int .i64 n] h
    (.tuple #[.agg (Bs 16 (cond (cipB m bx mx pl r && inR n 0 r) (decF m.toNat bx mx pl y s n.toNat) zeroF)).toArray, .int .i64 (codeN m bx mx pl r n)]) h := by
  have hk := codeI_ac m bx mx pl r n
  cases hc : cipB m bx mx pl r
  · have e := codeN_bad hc n
    rw [e] at hk ⊢
    (refine AC_begin (fun _ _ => Try.call18 _ _) Try.func18 rfl Try.ntmps18 Try.results18 (fun hwf => ?_); simp only [List.length_cons, List.length_nil, Nat.reduceAdd, Nat.reduceSub, List.replicate, List.cons_append, List.nil_append])
    (repeat (first | ((first | (refine And.intro ?_ ?_; focus exact PLA) | ((first | with_reducible apply callB_i | with_reducible apply callK_intro | with_reducible apply callQ_i); (focus (first | assumption | (with_reducible apply hk <;> (first | assumption | rfl | (simp (disch := omega) only [go_sem]; first | done | rfl) | omega | decide | (simp; done))))); (try exact WP_au)) | refine WA_seq (WA_region ?_) | refine WA_region ?_ | refine WA_exit ?_); try simp (maxSteps := 1000000) (disch := first | omega | rfl | decide | (simp only [List.length_cons, List.length_nil, List.length_append, Bs_length, Is_length, Vs_length, Bl_length, Il_length] <;> omega)) only [go_sem, Nat.reduceAdd, Int.reduceAdd, Int.reduceSub, Int.reduceMul, Bool.not_true, Bool.not_false, show ((1 : Int) != 0) = true from rfl]) | refine WA_seq ?_ | refine WA_block ?_ | (refine WA_skip ?_; try simp only [go_sem]) | (refine WA_ret ?_; try simp only [go_sem]) | refine WA_ct rfl ?_ | refine WA_cf rfl ?_))
    ((first | refine ret_nA ?_ | refine ret_sA ?_ | refine ret_fA ?_); simp (maxSteps := 1000000) (disch := first | omega | rfl | decide | (simp only [List.length_cons, List.length_nil, List.length_append, Bs_length, Is_length, Vs_length, Bl_length, Il_length] <;> omega)) only [go_sem, Nat.reduceAdd, Int.reduceAdd, Int.reduceSub, Int.reduceMul, Bool.not_true, Bool.not_false, Bool.false_and, cond_false, zeroF]; try rfl)
  · cases hi : inR n 0 r
    · have e := codeN_out hc hi
      rw [e] at hk ⊢
      (refine AC_begin (fun _ _ => Try.call18 _ _) Try.func18 rfl Try.ntmps18 Try.results18 (fun hwf => ?_); simp only [List.length_cons, List.length_nil, Nat.reduceAdd, Nat.reduceSub, List.replicate, List.cons_append, List.nil_append])
      (repeat (first | ((first | (refine And.intro ?_ ?_; focus exact PLA) | ((first | with_reducible apply callB_i | with_reducible apply callK_intro | with_reducible apply callQ_i); (focus (first | assumption | (with_reducible apply hk <;> (first | assumption | rfl | (simp (disch := omega) only [go_sem]; first | done | rfl) | omega | decide | (simp; done))))); (try exact WP_au)) | refine WA_seq (WA_region ?_) | refine WA_region ?_ | refine WA_exit ?_); try simp (maxSteps := 1000000) (disch := first | omega | rfl | decide | (simp only [List.length_cons, List.length_nil, List.length_append, Bs_length, Is_length, Vs_length, Bl_length, Il_length] <;> omega)) only [go_sem, Nat.reduceAdd, Int.reduceAdd, Int.reduceSub, Int.reduceMul, Bool.not_true, Bool.not_false, show ((2 : Int) != 0) = true from rfl]) | refine WA_seq ?_ | refine WA_block ?_ | (refine WA_skip ?_; try simp only [go_sem]) | (refine WA_ret ?_; try simp only [go_sem]) | refine WA_ct rfl ?_ | refine WA_cf rfl ?_))
      ((first | refine ret_nA ?_ | refine ret_sA ?_ | refine ret_fA ?_); simp (maxSteps := 1000000) (disch := first | omega | rfl | decide | (simp only [List.length_cons, List.length_nil, List.length_append, Bs_length, Is_length, Vs_length, Bl_length, Il_length] <;> omega)) only [go_sem, Nat.reduceAdd, Int.reduceAdd, Int.reduceSub, Int.reduceMul, Bool.not_true, Bool.not_false, Bool.true_and, cond_false, zeroF]; try rfl)
    · have e := codeN_ok hc hi
      rw [e] at hk ⊢
      obtain ⟨p, rfl, h0, h1, _, _, hp, q, rfl, _, hq⟩ := cipB_nat hc
      obtain ⟨k, rfl, hkq⟩ := inR_up hi
      have hp' : ∀ i, i < 16 → (pl i).toNat < 16 := fun i hi => plOk_lt hp hi
      (refine AC_begin (fun _ _ => Try.call18 _ _) Try.func18 rfl Try.ntmps18 Try.results18 (fun hwf => ?_); simp only [List.length_cons, List.length_nil, Nat.reduceAdd, Nat.reduceSub, List.replicate, List.cons_append, List.nil_append])
      (repeat (first | ((first | (refine And.intro ?_ ?_; focus exact PLA) | ((first | with_reducible apply callB_i | with_reducible apply callK_intro | with_reducible apply callQ_i); (focus (first | assumption | ((first | with_reducible apply hk | with_reducible apply newEngine_ac h0 h1 _ _ hp) <;> (first | assumption | rfl | (simp (disch := omega) only [go_sem]; first | done | rfl) | omega | decide | (simp; done))) | ((first | with_reducible apply keysI_ac | with_reducible apply decI_ac) <;> (first | assumption | (refine look_old ?_ _; assumption) | rfl | (simp (disch := omega) only [go_sem]; first | done | rfl) | omega | decide | (simp; done))))); (try exact WP_au)) | refine WA_seq (WA_region ?_) | refine WA_region ?_ | refine WA_exit ?_); try simp (maxSteps := 1000000) (disch := first | omega | rfl | decide | (simp only [List.length_cons, List.length_nil, List.length_append, Bs_length, Is_length, Vs_length, Bl_length, Il_length] <;> omega)) only [go_sem, Nat.reduceAdd, Int.reduceAdd, Int.reduceSub, Int.reduceMul, Bool.not_true, Bool.not_false, bne_self_eq_false]) | (refine (WA_rb (id := 5) [6, 7] (SubM.refl _) mixedOk ?_); simp only [List.size_toArray, List.length_cons, List.length_nil]; (repeat (first | ((first | (refine And.intro ?_ ?_; focus exact PLA) | ((first | with_reducible apply callB_i | with_reducible apply callK_intro | with_reducible apply callQ_i | with_reducible apply callC_i); (focus (first | assumption | ((first | with_reducible apply hk | with_reducible apply newEngine_ac h0 h1 _ _ hp) <;> (first | assumption | rfl | (simp (disch := omega) only [go_sem]; first | done | rfl) | omega | decide | (simp; done))) | ((first | with_reducible apply keysI_ac | with_reducible apply decI_ac) <;> (first | assumption | (refine look_old ?_ _; assumption) | rfl | (simp (disch := omega) only [go_sem]; first | done | rfl) | omega | decide | (simp; done))))); (try (focus (exact NL.mk rfl))); (try exact WP_au)) | refine RB_take false [0, 1, 3] 6 (by rfl) (by kernel_rfl) (by decide) (by decide +kernel) ?_ | refine RB_take true [2, 5] 4 (by rfl) (by kernel_rfl) (by decide) (by decide +kernel) ?_ | refine RB_keepC 4 _ (by rfl) (by decide +kernel) ?_ | refine RB_exec 6 _ (by rfl) (by decide +kernel) (by decide +kernel) ?_ | refine RB_exec 7 _ (by rfl) (by decide +kernel) (by decide +kernel) ?_ | refine RB_take false [8] 0 (by rfl) (by kernel_rfl) (by decide) (by decide +kernel) ?_ | refine RB_done (by decide +kernel) ?_); try simp (maxSteps := 1000000) (disch := first | omega | rfl | decide | (simp only [List.length_cons, List.length_nil, List.length_append, Bs_length, Is_length, Vs_length, Bl_length, Il_length] <;> omega)) only [go_sem, Nat.reduceAdd, Int.reduceAdd, Int.reduceSub, Int.reduceMul, Bool.not_true, Bool.not_false, bne_self_eq_false])))) | refine WA_seq ?_ | refine WA_block ?_ | (refine WA_skip ?_; try simp only [go_sem]) | (refine WA_ret ?_; try simp only [go_sem]) | refine WA_ct rfl ?_ | refine WA_cf rfl ?_))
      ((first | refine ret_nA ?_ | refine ret_sA ?_ | refine ret_fA ?_); simp (maxSteps := 1000000) (disch := first | omega | rfl | decide | (simp only [List.length_cons, List.length_nil, List.length_append, Bs_length, Is_length, Vs_length, Bl_length, Il_length] <;> omega)) only [go_sem, Nat.reduceAdd, Int.reduceAdd, Int.reduceSub, Int.reduceMul, Bool.not_true, Bool.not_false, Bool.and_self, cond_true, Int.toNat_natCast]; try rfl)

theorem decTS_ac (m : Int) (bx mx pl y s : Nat → UInt8) (r : Int) (h : List Blk) : AC Try.prog 13 [.agg (Ci m bx mx pl r).toArray, .agg (Bs 16 y).toArray, .agg (Bs 16 s).toArray] h
    (.tuple #[.agg (Bs 16 (cond (cipB m bx mx pl r) (decF m.toNat bx mx pl y s r.toNat) zeroF)).toArray, .int .i64 (cipC m bx mx pl r)]) h := by
  cases hc : cipB m bx mx pl r
  · (refine AC_begin (fun _ _ => Try.call13 _ _) Try.func13 rfl Try.ntmps13 Try.results13 (fun hwf => ?_); simp only [List.length_cons, List.length_nil, Nat.reduceAdd, Nat.reduceSub, List.replicate, List.cons_append, List.nil_append])
    (repeat (first | ((first | (refine And.intro ?_ ?_; focus exact PLA) | ((first | with_reducible apply callB_i | with_reducible apply callK_intro | with_reducible apply callQ_i); (focus (first | assumption | (with_reducible apply cipS_ac <;> (first | assumption | rfl | (simp (disch := omega) only [go_sem]; first | done | rfl) | omega | decide | (simp; done))))); (try exact WP_au)) | refine WA_seq (WA_region ?_) | refine WA_region ?_ | refine WA_exit ?_); try simp (maxSteps := 1000000) (disch := first | omega | rfl | decide | (simp only [List.length_cons, List.length_nil, List.length_append, Bs_length, Is_length, Vs_length, Bl_length, Il_length] <;> omega)) only [go_sem, Nat.reduceAdd, Int.reduceAdd, Int.reduceSub, Int.reduceMul, Bool.not_true, Bool.not_false, hc, Bool.not_false]) | refine WA_seq ?_ | refine WA_block ?_ | (refine WA_skip ?_; try simp only [go_sem]) | (refine WA_ret ?_; try simp only [go_sem]) | refine WA_ct rfl ?_ | refine WA_cf rfl ?_))
    ((first | refine ret_nA ?_ | refine ret_sA ?_ | refine ret_fA ?_); simp (maxSteps := 1000000) (disch := first | omega | rfl | decide | (simp only [List.length_cons, List.length_nil, List.length_append, Bs_length, Is_length, Vs_length, Bl_length, Il_length] <;> omega)) only [go_sem, Nat.reduceAdd, Int.reduceAdd, Int.reduceSub, Int.reduceMul, Bool.not_true, Bool.not_false, cipC, hc, cond_false, zeroF]; try rfl)
  · obtain ⟨p, rfl, h0, h1, _, _, hp, q, rfl, _, hq⟩ := cipB_nat hc
    have hp' : ∀ i, i < 16 → (pl i).toNat < 16 := fun i hi => plOk_lt hp hi
    (refine AC_begin (fun _ _ => Try.call13 _ _) Try.func13 rfl Try.ntmps13 Try.results13 (fun hwf => ?_); simp only [List.length_cons, List.length_nil, Nat.reduceAdd, Nat.reduceSub, List.replicate, List.cons_append, List.nil_append])
    (repeat (first | ((first | (refine And.intro ?_ ?_; focus exact PLA) | ((first | with_reducible apply callB_i | with_reducible apply callK_intro | with_reducible apply callQ_i); (focus (first | assumption | ((first | with_reducible apply cipS_ac | with_reducible apply decS_ac h0 h1 _ _ _ hp _ _ (n := q) (by omega)) <;> (first | assumption | rfl | (simp (disch := omega) only [go_sem]; first | done | rfl) | omega | decide | (simp; done))))); (try exact WP_au)) | refine WA_seq (WA_region ?_) | refine WA_region ?_ | refine WA_exit ?_); try simp (maxSteps := 1000000) (disch := first | omega | rfl | decide | (simp only [List.length_cons, List.length_nil, List.length_append, Bs_length, Is_length, Vs_length, Bl_length, Il_length] <;> omega)) only [go_sem, Nat.reduceAdd, Int.reduceAdd, Int.reduceSub, Int.reduceMul, Bool.not_true, Bool.not_false, hc, Bool.not_true]) | refine WA_seq ?_ | refine WA_block ?_ | (refine WA_skip ?_; try simp only [go_sem]) | (refine WA_ret ?_; try simp only [go_sem]) | refine WA_ct rfl ?_ | refine WA_cf rfl ?_))
    ((first | refine ret_nA ?_ | refine ret_sA ?_ | refine ret_fA ?_); simp (maxSteps := 1000000) (disch := first | omega | rfl | decide | (simp only [List.length_cons, List.length_nil, List.length_append, Bs_length, Is_length, Vs_length, Bl_length, Il_length] <;> omega)) only [go_sem, Nat.reduceAdd, Int.reduceAdd, Int.reduceSub, Int.reduceMul, Bool.not_true, Bool.not_false, cipC, hc, cond_true, Int.toNat_natCast]; try rfl)

theorem decTI_ac (m : Int) (bx mx pl y s : Nat → UInt8) (r : Int) (h : List Blk) : AC Try.prog 12 [.agg (Ci m bx mx pl r).toArray, .agg (Bs 16 y).toArray, .agg (Bs 16 s).toArray] h
    (.tuple #[.agg (Bs 16 (cond (cipB m bx mx pl r) (decF m.toNat bx mx pl y s r.toNat) zeroF)).toArray, .int .i64 (cipC m bx mx pl r)]) h := by
  have hx : ∀ h, AC Try.prog 18 [.agg (Ci m bx mx pl r).toArray, .agg (Bs 16 y).toArray, .agg (Bs 16 s).toArray, .int .i64 r] h
      (.tuple #[.agg (Bs 16 (cond (cipB m bx mx pl r) (decF m.toNat bx mx pl y s r.toNat) zeroF)).toArray, .int .i64 (cipC m bx mx pl r)]) h := fun h => by
    have := decOI_ac m bx mx pl y s r r h
    cases hc : cipB m bx mx pl r
    · rw [hc, codeN_bad hc, Bool.false_and] at this; rw [show cipC m bx mx pl r = 1 by unfold cipC; rw [hc]; rfl]; exact this
    · obtain ⟨p, rfl, h0, h1, _, _, hp, q, rfl, _, hq⟩ := cipB_nat hc
      rw [hc, codeN_ok hc inR_self, inR_self, Bool.and_self] at this; rw [show cipC (p : Int) bx mx pl q = 0 by unfold cipC; rw [hc]; rfl]; exact this
  (refine AC_begin (fun _ _ => Try.call12 _ _) Try.func12 rfl Try.ntmps12 Try.results12 (fun hwf => ?_); simp only [List.length_cons, List.length_nil, Nat.reduceAdd, Nat.reduceSub, List.replicate, List.cons_append, List.nil_append])
  (repeat (first | ((first | (refine And.intro ?_ ?_; focus exact PLA) | ((first | with_reducible apply callB_i | with_reducible apply callK_intro | with_reducible apply callQ_i); (focus (first | assumption | (with_reducible apply hx <;> (first | assumption | rfl | (simp (disch := omega) only [go_sem]; first | done | rfl) | omega | decide | (simp; done))))); (try exact WP_au)) | refine WA_seq (WA_region ?_) | refine WA_region ?_ | refine WA_exit ?_); try simp (maxSteps := 1000000) (disch := first | omega | rfl | decide | (simp only [List.length_cons, List.length_nil, List.length_append, Bs_length, Is_length, Vs_length, Bl_length, Il_length] <;> omega)) only [go_sem, Nat.reduceAdd, Int.reduceAdd, Int.reduceSub, Int.reduceMul, Bool.not_true, Bool.not_false]) | refine WA_seq ?_ | refine WA_block ?_ | (refine WA_skip ?_; try simp only [go_sem]) | (refine WA_ret ?_; try simp only [go_sem]) | refine WA_ct rfl ?_ | refine WA_cf rfl ?_))
  ((first | refine ret_nA ?_ | refine ret_sA ?_ | refine ret_fA ?_); simp (maxSteps := 1000000) (disch := first | omega | rfl | decide | (simp only [List.length_cons, List.length_nil, List.length_append, Bs_length, Is_length, Vs_length, Bl_length, Il_length] <;> omega)) only [go_sem, Nat.reduceAdd, Int.reduceAdd, Int.reduceSub, Int.reduceMul, Bool.not_true, Bool.not_false]; try rfl)

end Go.Proofs.Ytcfpninklbnifaa
/- HouseCipher, HouseNetwork. -/
namespace Go.Proofs.Ytcfpninklbnifaa
set_option linter.unusedSimpArgs false
set_option linter.unusedVariables false
set_option maxRecDepth 20000
set_option maxHeartbeats 1000000
open Go.Abs

theorem houseCS_ac (r : Int) (h : List Blk) : AC Try.prog 22 [.int .i64 r] h (.tuple #[.agg (Ci (cond (inR r 1 20) 285 0) (cond (inR r 1 20) hBoxF zF) (cond (inR r 1 20) hMixF zF) (cond (inR r 1 20) hPlF zF) (cond (inR r 1 20) r 0)).toArray, .int .i64 (cond (inR r 1 20) 0 2)]) h := by
  have hw := inS_ac r 1 20
  cases hr : inR r 1 20 <;> rw [hr] at hw
  · (refine AC_begin (fun _ _ => Try.call22 _ _) Try.func22 rfl Try.ntmps22 Try.results22 (fun hwf => ?_); simp only [List.length_cons, List.length_nil, Nat.reduceAdd, Nat.reduceSub, List.replicate, List.cons_append, List.nil_append])
    (repeat (first | ((first | (refine And.intro ?_ ?_; focus exact PLA) | ((first | with_reducible apply callB_i | with_reducible apply callK_intro | with_reducible apply callQ_i); (focus (first | assumption | (with_reducible apply hw <;> (first | assumption | rfl | (simp (disch := omega) only [go_sem]; first | done | rfl) | omega | decide | (simp; done))))); (try exact WP_au)) | refine WA_seq (WA_region ?_) | refine WA_region ?_ | refine WA_exit ?_); try simp (maxSteps := 1000000) (disch := first | omega | rfl | decide | (simp only [List.length_cons, List.length_nil, List.length_append, Bs_length, Is_length, Vs_length, Bl_length, Il_length] <;> omega)) only [go_sem, Nat.reduceAdd, Int.reduceAdd, Int.reduceSub, Int.reduceMul, Bool.not_true, Bool.not_false, Ci_splice_all]) | refine WA_seq ?_ | refine WA_block ?_ | (refine WA_skip ?_; try simp only [go_sem]) | (refine WA_ret ?_; try simp only [go_sem]) | refine WA_ct rfl ?_ | refine WA_cf rfl ?_))
    ((first | refine ret_nA ?_ | refine ret_sA ?_ | refine ret_fA ?_); simp (maxSteps := 1000000) (disch := first | omega | rfl | decide | (simp only [List.length_cons, List.length_nil, List.length_append, Bs_length, Is_length, Vs_length, Bl_length, Il_length] <;> omega)) only [go_sem, Nat.reduceAdd, Int.reduceAdd, Int.reduceSub, Int.reduceMul, Bool.not_true, Bool.not_false, cond_false, Ci_splice_all, zF]; try rfl)
  · (refine AC_begin (fun _ _ => Try.call22 _ _) Try.func22 rfl Try.ntmps22 Try.results22 (fun hwf => ?_); simp only [List.length_cons, List.length_nil, Nat.reduceAdd, Nat.reduceSub, List.replicate, List.cons_append, List.nil_append])
    (repeat (first | ((first | (refine And.intro ?_ ?_; focus exact PLA) | ((first | with_reducible apply callB_i | with_reducible apply callK_intro | with_reducible apply callQ_i); (focus (first | assumption | ((first | with_reducible apply hw | with_reducible apply houseS_ac) <;> (first | assumption | rfl | (simp (disch := omega) only [go_sem]; first | done | rfl) | omega | decide | (simp; done))))); (try exact WP_au)) | refine WA_seq (WA_region ?_) | refine WA_region ?_ | refine WA_exit ?_); try simp (maxSteps := 1000000) (disch := first | omega | rfl | decide | (simp only [List.length_cons, List.length_nil, List.length_append, Bs_length, Is_length, Vs_length, Bl_length, Il_length] <;> omega)) only [go_sem, Nat.reduceAdd, Int.reduceAdd, Int.reduceSub, Int.reduceMul, Bool.not_true, Bool.not_false, Ci_splice_all]) | refine WA_seq ?_ | refine WA_block ?_ | (refine WA_skip ?_; try simp only [go_sem]) | (refine WA_ret ?_; try simp only [go_sem]) | refine WA_ct rfl ?_ | refine WA_cf rfl ?_))
    ((first | refine ret_nA ?_ | refine ret_sA ?_ | refine ret_fA ?_); simp (maxSteps := 1000000) (disch := first | omega | rfl | decide | (simp only [List.length_cons, List.length_nil, List.length_append, Bs_length, Is_length, Vs_length, Bl_length, Il_length] <;> omega)) only [go_sem, Nat.reduceAdd, Int.reduceAdd, Int.reduceSub, Int.reduceMul, Bool.not_true, Bool.not_false, cond_true]; try rfl)

theorem houseCI_ac (r : Int) (h : List Blk) : AC Try.prog 21 [.int .i64 r] h (.tuple #[.agg (Ci (cond (inR r 1 20) 285 0) (cond (inR r 1 20) hBoxF zF) (cond (inR r 1 20) hMixF zF) (cond (inR r 1 20) hPlF zF) (cond (inR r 1 20) r 0)).toArray, .int .i64 (cond (inR r 1 20) 0 2)]) h := by
  have hw := inI_ac r 1 20
  cases hr : inR r 1 20 <;> rw [hr] at hw
  · (refine AC_begin (fun _ _ => Try.call21 _ _) Try.func21 rfl Try.ntmps21 Try.results21 (fun hwf => ?_); simp only [List.length_cons, List.length_nil, Nat.reduceAdd, Nat.reduceSub, List.replicate, List.cons_append, List.nil_append])
    (repeat (first | ((first | (refine And.intro ?_ ?_; focus exact PLA) | ((first | with_reducible apply callB_i | with_reducible apply callK_intro | with_reducible apply callQ_i); (focus (first | assumption | (with_reducible apply hw <;> (first | assumption | rfl | (simp (disch := omega) only [go_sem]; first | done | rfl) | omega | decide | (simp; done))))); (try exact WP_au)) | refine WA_seq (WA_region ?_) | refine WA_region ?_ | refine WA_exit ?_); try simp (maxSteps := 1000000) (disch := first | omega | rfl | decide | (simp only [List.length_cons, List.length_nil, List.length_append, Bs_length, Is_length, Vs_length, Bl_length, Il_length] <;> omega)) only [go_sem, Nat.reduceAdd, Int.reduceAdd, Int.reduceSub, Int.reduceMul, Bool.not_true, Bool.not_false, Ci_splice_all]) | refine WA_seq ?_ | refine WA_block ?_ | (refine WA_skip ?_; try simp only [go_sem]) | (refine WA_ret ?_; try simp only [go_sem]) | refine WA_ct rfl ?_ | refine WA_cf rfl ?_))
    ((first | refine ret_nA ?_ | refine ret_sA ?_ | refine ret_fA ?_); simp (maxSteps := 1000000) (disch := first | omega | rfl | decide | (simp only [List.length_cons, List.length_nil, List.length_append, Bs_length, Is_length, Vs_length, Bl_length, Il_length] <;> omega)) only [go_sem, Nat.reduceAdd, Int.reduceAdd, Int.reduceSub, Int.reduceMul, Bool.not_true, Bool.not_false, cond_false, Ci_splice_all, zF]; try rfl)
  · (refine AC_begin (fun _ _ => Try.call21 _ _) Try.func21 rfl Try.ntmps21 Try.results21 (fun hwf => ?_); simp only [List.length_cons, List.length_nil, Nat.reduceAdd, Nat.reduceSub, List.replicate, List.cons_append, List.nil_append])
    (repeat (first | ((first | (refine And.intro ?_ ?_; focus exact PLA) | ((first | with_reducible apply callB_i | with_reducible apply callK_intro | with_reducible apply callQ_i); (focus (first | assumption | ((first | with_reducible apply hw | with_reducible apply houseI_ac) <;> (first | assumption | rfl | (simp (disch := omega) only [go_sem]; first | done | rfl) | omega | decide | (simp; done))))); (try exact WP_au)) | refine WA_seq (WA_region ?_) | refine WA_region ?_ | refine WA_exit ?_); try simp (maxSteps := 1000000) (disch := first | omega | rfl | decide | (simp only [List.length_cons, List.length_nil, List.length_append, Bs_length, Is_length, Vs_length, Bl_length, Il_length] <;> omega)) only [go_sem, Nat.reduceAdd, Int.reduceAdd, Int.reduceSub, Int.reduceMul, Bool.not_true, Bool.not_false, Ci_splice_all]) | refine WA_seq ?_ | refine WA_block ?_ | (refine WA_skip ?_; try simp only [go_sem]) | (refine WA_ret ?_; try simp only [go_sem]) | refine WA_ct rfl ?_ | refine WA_cf rfl ?_))
    ((first | refine ret_nA ?_ | refine ret_sA ?_ | refine ret_fA ?_); simp (maxSteps := 1000000) (disch := first | omega | rfl | decide | (simp only [List.length_cons, List.length_nil, List.length_append, Bs_length, Is_length, Vs_length, Bl_length, Il_length] <;> omega)) only [go_sem, Nat.reduceAdd, Int.reduceAdd, Int.reduceSub, Int.reduceMul, Bool.not_true, Bool.not_false, cond_true]; try rfl)

end Go.Proofs.Ytcfpninklbnifaa
/- Matrices: the reduction's second half undoes the first; mixing is additive. Plain. -/
namespace Go.Proofs.Ytcfpninklbnifaa
set_option linter.unusedSimpArgs false
set_option linter.unusedVariables false
set_option maxRecDepth 20000
set_option maxHeartbeats 1000000
open Go.Abs

/-- The sum of the first n products. -/
def dt (m : Nat) (r y : Nat → UInt8) : Nat → UInt8
  | 0 => 0
  | n + 1 => dt m r y n ^^^ tm m (r n) (y n)
theorem dt_cong {m : Nat} {r s y z : Nat → UInt8} : ∀ {n : Nat}, (∀ t, t < n → r t = s t) → (∀ t, t < n → y t = z t) → dt m r y n = dt m s z n
  | 0, _, _ => rfl
  | n + 1, h, h2 => by
    show dt m r y n ^^^ tm m (r n) (y n) = dt m s z n ^^^ tm m (s n) (z n)
    rw [dt_cong (fun t ht => h t (by omega)) (fun t ht => h2 t (by omega)), h n (by omega), h2 n (by omega)]
theorem xor4 (a b c d : UInt8) : (a ^^^ b) ^^^ (c ^^^ d) = (a ^^^ c) ^^^ (b ^^^ d) := by
  rw [UInt8.xor_assoc, UInt8.xor_assoc, ← UInt8.xor_assoc b c d, ← UInt8.xor_assoc c b d, UInt8.xor_comm b c]
section
variable {m : Nat} (h0 : 256 ≤ m) (h1 : m < 512)
include h0 h1
theorem dt_xor (r s y : Nat → UInt8) : ∀ n, dt m (fun t => r t ^^^ s t) y n = dt m r y n ^^^ dt m s y n
  | 0 => UInt8.xor_self.symm
  | n + 1 => by
    show dt m (fun t => r t ^^^ s t) y n ^^^ tm m (r n ^^^ s n) (y n) = (dt m r y n ^^^ tm m (r n) (y n)) ^^^ (dt m s y n ^^^ tm m (s n) (y n))
    rw [dt_xor r s y n, tm_xorL h0 h1, xor4]
theorem dt_scl (r y : Nat → UInt8) (v : UInt8) : ∀ n, dt m (fun t => tm m (r t) v) y n = tm m (dt m r y n) v
  | 0 => (tm_zero m v).symm
  | n + 1 => by
    show dt m (fun t => tm m (r t) v) y n ^^^ tm m (tm m (r n) v) (y n) = tm m (dt m r y n ^^^ tm m (r n) (y n)) v
    rw [dt_scl r y v n, tm_xorL h0 h1, tm_assoc h0 h1, tm_comm h0 h1 v, ← tm_assoc h0 h1]
theorem dt_sclL (r y : Nat → UInt8) (f : UInt8) : ∀ n, dt m (fun t => tm m f (r t)) y n = tm m f (dt m r y n)
  | 0 => (tm_zeroR m f).symm
  | n + 1 => by
    show dt m (fun t => tm m f (r t)) y n ^^^ tm m (tm m f (r n)) (y n) = tm m f (dt m r y n ^^^ tm m (r n) (y n))
    rw [dt_sclL r y f n, tm_xor, tm_assoc h0 h1]
end
/-- Row i of a matrix times a column. -/
def D (m : Nat) (x z : Nat → UInt8) (i : Nat) : UInt8 := dt m (fun t => x (i * 4 + t)) z 4
theorem swp_at (x : Nat → UInt8) {p k i t : Nat} (ht : t < 4) : swp x p k (i * 4 + t) = if i = k then x (p * 4 + t) else if i = p then x (k * 4 + t) else x (i * 4 + t) := by
  unfold swp
  by_cases hk : i = k
  · subst hk
    rw [if_pos rfl]
    show (if i * 4 ≤ i * 4 + t ∧ i * 4 + t < i * 4 + 4 then x (p * 4 + (i * 4 + t - i * 4)) else _) = _
    rw [if_pos (by omega)]; congr 1; omega
  · rw [over_out (by omega), if_neg hk]
    by_cases hp : i = p
    · subst hp
      rw [if_pos rfl]
      show (if i * 4 ≤ i * 4 + t ∧ i * 4 + t < i * 4 + 4 then x (k * 4 + (i * 4 + t - i * 4)) else _) = _
      rw [if_pos (by omega)]; congr 1; omega
    · rw [over_out (by omega), if_neg hp]
theorem scl_row (m : Nat) (x : Nat → UInt8) (v : UInt8) {k i t : Nat} (ht : t < 4) : scl m x k v 4 (i * 4 + t) = if i = k then tm m (x (k * 4 + t)) v else x (i * 4 + t) := by
  unfold scl
  by_cases hk : i = k
  · subst hk
    rw [if_pos rfl]
    show (if i * 4 ≤ i * 4 + t ∧ i * 4 + t < i * 4 + 4 then tm m (x (i * 4 + (i * 4 + t - i * 4))) v else _) = _
    rw [if_pos (by omega), show i * 4 + t - i * 4 = t by omega]
  · rw [over_out (by omega), if_neg hk]
theorem elm_row (m : Nat) (f : UInt8) (x : Nat → UInt8) {k r i t : Nat} (ht : t < 4) : elm m f k r x 4 (i * 4 + t) = if i = r then x (r * 4 + t) ^^^ tm m f (x (k * 4 + t)) else x (i * 4 + t) := by
  unfold elm
  by_cases hk : i = r
  · subst hk
    rw [if_pos rfl]
    show (if i * 4 ≤ i * 4 + t ∧ i * 4 + t < i * 4 + 4 then x (i * 4 + (i * 4 + t - i * 4)) ^^^ tm m f (x (k * 4 + (i * 4 + t - i * 4))) else _) = _
    rw [if_pos (by omega), show i * 4 + t - i * 4 = t by omega]
  · rw [over_out (by omega), if_neg hk]
theorem D_swp (m : Nat) (x z : Nat → UInt8) (p k i : Nat) : D m (swp x p k) z i = if i = k then D m x z p else if i = p then D m x z k else D m x z i := by
  unfold D
  by_cases hk : i = k
  · rw [if_pos hk]; exact dt_cong (fun t ht => by rw [swp_at x ht, if_pos hk]) (fun _ _ => rfl)
  · rw [if_neg hk]
    by_cases hp : i = p
    · rw [if_pos hp]; exact dt_cong (fun t ht => by rw [swp_at x ht, if_neg hk, if_pos hp]) (fun _ _ => rfl)
    · rw [if_neg hp]; exact dt_cong (fun t ht => by rw [swp_at x ht, if_neg hk, if_neg hp]) (fun _ _ => rfl)
section
variable {m : Nat} (h0 : 256 ≤ m) (h1 : m < 512)
include h0 h1
theorem D_scl (x z : Nat → UInt8) (v : UInt8) (k i : Nat) : D m (scl m x k v 4) z i = if i = k then tm m (D m x z k) v else D m x z i := by
  unfold D
  by_cases hk : i = k
  · rw [if_pos hk, ← dt_scl h0 h1]; exact dt_cong (fun t ht => by rw [scl_row m x v ht, if_pos hk]) (fun _ _ => rfl)
  · rw [if_neg hk]; exact dt_cong (fun t ht => by rw [scl_row m x v ht, if_neg hk]) (fun _ _ => rfl)
theorem D_elm (x z : Nat → UInt8) (f : UInt8) (k r i : Nat) : D m (elm m f k r x 4) z i = if i = r then D m x z r ^^^ tm m f (D m x z k) else D m x z i := by
  unfold D
  by_cases hk : i = r
  · rw [if_pos hk, ← dt_sclL h0 h1, ← dt_xor h0 h1]; exact dt_cong (fun t ht => by rw [elm_row m f x ht, if_pos hk]) (fun _ _ => rfl)
  · rw [if_neg hk]; exact dt_cong (fun t ht => by rw [elm_row m f x ht, if_neg hk]) (fun _ _ => rfl)
/-- The same steps on both halves keep their images alike. -/
theorem elN_D {a b v y : Nat → UInt8} {k : Nat} (hk : k < 4) (h : ∀ i, i < 4 → D m b v i = D m a y i) : ∀ r, r ≤ 4 → ∀ i, i < 4 → D m (elN m k a b r).2 v i = D m (elN m k a b r).1 y i
  | 0, _, i, hi => h i hi
  | r + 1, hr, i, hi => by
    have ih := elN_D hk h r (by omega)
    by_cases hrk : r = k
    · subst hrk; rw [elN_same]; exact ih i hi
    · rw [elN_other hrk]
      show D m (elm m _ k r _ 4) v i = D m (elm m _ k r _ 4) y i
      rw [D_elm h0 h1, D_elm h0 h1, ih i hi, ih k hk, ih r (by omega)]
theorem stepR_D {k : Nat} {s : RS} {v y : Nat → UInt8} (hk : k < 4) (hp : piv s.a k < 4) (h : ∀ i, i < 4 → D m s.b v i = D m s.a y i) : ∀ i, i < 4 → D m (stepR m k s).b v i = D m (stepR m k s).a y i := by
  refine elN_D h0 h1 hk (fun i hi => ?_) 4 (Nat.le_refl _)
  have hs : ∀ i, i < 4 → D m (swp s.b (piv s.a k) k) v i = D m (swp s.a (piv s.a k) k) y i := fun i hi => by
    rw [D_swp, D_swp, h i hi, h _ hp, h k hk]
  rw [D_scl h0 h1, D_scl h0 h1, hs i hi, hs k hk]
omit h0 h1 in
theorem sing_piv {a : Nat → UInt8} : ∀ {n : Nat}, sing m a n = false → ∀ k, k < n → piv (rs m a k).a k ≠ 4
  | 0, _, k, hk => absurd hk (by omega)
  | n + 1, h, k, hk => by
    rw [sing, Bool.or_eq_false_iff] at h
    by_cases e : k = n
    · subst e; simpa using h.2
    · exact sing_piv h.1 k (by omega)
theorem D_unit (v : Nat → UInt8) {i : Nat} (hi : i < 4) : D m unitF v i = v i := by
  have e : ∀ t, t < 4 → unitF (i * 4 + t) = if t = i then 1 else 0 := fun t ht => by
    unfold unitF unitP
    by_cases h : t = i
    · rw [if_pos h, if_pos (by omega)]
    · rw [if_neg h, if_neg (by omega)]
  show 0 ^^^ tm m (unitF (i * 4 + 0)) (v 0) ^^^ tm m (unitF (i * 4 + 1)) (v 1) ^^^ tm m (unitF (i * 4 + 2)) (v 2) ^^^ tm m (unitF (i * 4 + 3)) (v 3) = v i
  rw [e 0 (by omega), e 1 (by omega), e 2 (by omega), e 3 (by omega)]
  have hcase : i = 0 ∨ i = 1 ∨ i = 2 ∨ i = 3 := by omega
  rcases hcase with rfl | rfl | rfl | rfl <;> simp [tm_zero, tm_one h0 h1]
theorem rs_D (a y : Nat → UInt8) : ∀ k, k ≤ 4 → sing m a k = false → ∀ i, i < 4 → D m (rs m a k).b (D m a y) i = D m (rs m a k).a y i
  | 0, _, _, i, hi => D_unit h0 h1 _ hi
  | k + 1, hk, hs, i, hi => by
    have hp := sing_piv hs k (by omega)
    have hle := piv_le (rs m a k).a (show k < 4 by omega)
    rw [sing, Bool.or_eq_false_iff] at hs
    exact stepR_D h0 h1 (by omega) (by omega) (rs_D a y k (by omega) hs.1) i hi
end
/-- The first k columns are the unit matrix's. -/
def Un (a : Nat → UInt8) (k : Nat) : Prop := ∀ i, i < 4 → ∀ j, j < k → a (i * 4 + j) = if i = j then 1 else 0
section
variable {m : Nat} (h0 : 256 ≤ m) (h1 : m < 512)
theorem elN_key {a b : Nat → UInt8} {k : Nat} (hk : k < 4) : ∀ r, r ≤ 4 → ∀ t, t < 4 → (elN m k a b r).1 (k * 4 + t) = a (k * 4 + t)
  | 0, _, t, _ => rfl
  | r + 1, hr, t, ht => by
    by_cases hrk : r = k
    · subst hrk; rw [elN_same]; exact elN_key hk r (by omega) t ht
    · rw [elN_other hrk]
      show elm m _ k r _ 4 (k * 4 + t) = _
      rw [elm_row m _ _ ht, if_neg (by omega)]
      exact elN_key hk r (by omega) t ht
theorem elN_lo {a b : Nat → UInt8} {k j : Nat} (hk : k < 4) (hj : j < k) (hz : a (k * 4 + j) = 0) : ∀ r, r ≤ 4 → ∀ i, i < 4 → (elN m k a b r).1 (i * 4 + j) = a (i * 4 + j)
  | 0, _, i, _ => rfl
  | r + 1, hr, i, hi => by
    have ih := elN_lo (b := b) hk hj hz r (by omega)
    by_cases hrk : r = k
    · subst hrk; rw [elN_same]; exact ih i hi
    · rw [elN_other hrk]
      show elm m _ k r _ 4 (i * 4 + j) = _
      rw [elm_row m _ _ (by omega)]
      by_cases hir : i = r
      · subst hir
        rw [if_pos rfl, elN_key hk i (by omega) j (by omega), hz, tm_zeroR, UInt8.xor_zero]
        exact ih i hi
      · rw [if_neg hir]; exact ih i hi
include h0 h1 in
theorem elN_col {a b : Nat → UInt8} {k : Nat} (hk : k < 4) (hz : a (k * 4 + k) = 1) : ∀ r, r ≤ 4 → ∀ i, i < r → i ≠ k → (elN m k a b r).1 (i * 4 + k) = 0
  | 0, _, i, hi, _ => absurd hi (by omega)
  | r + 1, hr, i, hi, hik => by
    by_cases hrk : r = k
    · subst hrk; rw [elN_same]; exact elN_col hk hz r (by omega) i (by omega) hik
    · rw [elN_other hrk]
      show elm m _ k r _ 4 (i * 4 + k) = _
      rw [elm_row m _ _ hk]
      by_cases hir : i = r
      · subst hir
        rw [if_pos rfl, elN_key hk i (by omega) k hk, hz, tm_oneR h0 h1, UInt8.xor_self]
      · rw [if_neg hir]; exact elN_col hk hz r (by omega) i (by omega) hik
include h0 h1 in
theorem stepR_U (hf : fieldB m = true) {k : Nat} {s : RS} (hk : k < 4) (hp : piv s.a k < 4) (h : Un s.a k) : Un (stepR m k s).a (k + 1) := by
  have hle := (piv_le s.a hk).1
  have hnz := piv_end hk hp
  generalize hpe : piv s.a k = p at hp hle hnz
  have w : swp s.a p k (k * 4 + k) = s.a (p * 4 + k) := by rw [swp_at s.a hk, if_pos rfl]
  have hw : s.a (p * 4 + k) ≠ 0 := by simpa using hnz
  have hs : Un (swp s.a p k) k := fun i hi j hj => by
    rw [swp_at s.a (by omega)]
    by_cases hik : i = k
    · rw [if_pos hik, h p hp j hj, if_neg (by omega), if_neg (by omega)]
    · rw [if_neg hik]
      by_cases hip : i = p
      · rw [if_pos hip, h k hk j hj, if_neg (by omega), if_neg (by omega)]
      · rw [if_neg hip, h i hi j hj]
  have hc : Un (scl m (swp s.a p k) k (inv m (swp s.a p k (k * 4 + k))) 4) k := fun i hi j hj => by
    rw [scl_row m _ _ (by omega)]
    by_cases hik : i = k
    · rw [if_pos hik, hs k hk j hj, if_neg (by omega), if_neg (by omega), tm_zero]
    · rw [if_neg hik, hs i hi j hj]
  have h11 : scl m (swp s.a p k) k (inv m (swp s.a p k (k * 4 + k))) 4 (k * 4 + k) = 1 := by
    rw [scl_row m _ _ hk, if_pos rfl, w, tm_inv h0 h1 hf hw]
  intro i hi j hj
  unfold stepR
  rw [hpe]
  by_cases hjk : j < k
  · show (elN m k _ _ 4).1 (i * 4 + j) = _
    rw [elN_lo hk hjk (by rw [hc k hk j hjk, if_neg (by omega)]) 4 (by omega) i hi, hc i hi j hjk]
  · have hjk : j = k := by omega
    subst hjk
    show (elN m j _ _ 4).1 (i * 4 + j) = _
    by_cases hij : i = j
    · subst hij
      rw [if_pos rfl, elN_key hi 4 (by omega) i hi, h11]
    · rw [if_neg hij, elN_col h0 h1 hk h11 4 (by omega) i hi hij]
include h0 h1 in
theorem rs_U (hf : fieldB m = true) (a : Nat → UInt8) : ∀ k, k ≤ 4 → sing m a k = false → Un (rs m a k).a k
  | 0, _, _ => fun i _ j hj => absurd hj (by omega)
  | k + 1, hk, hs => by
    have hp := sing_piv hs k (by omega)
    have hle := piv_le (rs m a k).a (show k < 4 by omega)
    rw [sing, Bool.or_eq_false_iff] at hs
    exact stepR_U h0 h1 hf (by omega) (by omega) (rs_U hf a k (by omega) hs.1)
include h0 h1 in
/-- The inverse undoes a matrix. -/
theorem backF_D (hf : fieldB m = true) {a : Nat → UInt8} (hd : detF m a ≠ 0) (y : Nat → UInt8) {i : Nat} (hi : i < 4) : D m (backF m a) (D m a y) i = y i := by
  have hs : sing m a 4 = false := by
    cases hs : sing m a 4 with
    | false => rfl
    | true => exact absurd (by unfold detF; rw [hs]; rfl) hd
  have hb : backF m a = (rs m a 4).b := by unfold backF; rw [hs]; rfl
  rw [hb, rs_D h0 h1 a y 4 (by omega) hs i hi]
  have hU := rs_U h0 h1 hf a 4 (by omega) hs
  rw [← D_unit h0 h1 y hi]
  unfold D
  refine dt_cong (fun t ht => ?_) (fun _ _ => rfl)
  rw [hU i hi t ht]
  unfold unitF unitP
  by_cases h : i = t
  · rw [if_pos h, if_pos (by omega)]
  · rw [if_neg h, if_neg (by omega)]
theorem mix_D (a b : Nat → UInt8) (c i : Nat) : mxP m a b c i 4 = D m a (fun t => b (4 * c + t)) i := rfl
include h0 h1 in
/-- Mixing is undone by mixing with the inverse. -/
theorem mix_back (hf : fieldB m = true) {a : Nat → UInt8} (hd : detF m a ≠ 0) (x : Nat → UInt8) {n : Nat} (hn : n < 16) : mixF m (backF m a) (mixF m a x) n = x n := by
  show mxP m (backF m a) (mixF m a x) (n / 4) (n % 4) 4 = x n
  rw [mix_D]
  have e := backF_D h0 h1 hf hd (fun t => x (4 * (n / 4) + t)) (show n % 4 < 4 by omega)
  rw [show 4 * (n / 4) + n % 4 = n by omega] at e
  rw [← e]
  unfold D
  refine dt_cong (fun _ _ => rfl) (fun t ht => ?_)
  show mxP m a x ((4 * (n / 4) + t) / 4) ((4 * (n / 4) + t) % 4) 4 = _
  rw [show (4 * (n / 4) + t) / 4 = n / 4 by omega, show (4 * (n / 4) + t) % 4 = t by omega]
  rfl
end
end Go.Proofs.Ytcfpninklbnifaa
/- Inverses of permutations undo them; compositions are permutations. -/
namespace Go.Proofs.Ytcfpninklbnifaa
set_option linter.unusedSimpArgs false
set_option linter.unusedVariables false
set_option maxRecDepth 20000
set_option maxHeartbeats 1000000
open Go.Abs

/-- The inverse leads back. -/
theorem invP_at {f : Nat → UInt8} {n : Nat} (hn : n ≤ 256) (hi : ∀ i j, i < n → j < n → f i = f j → i = j) : ∀ k, k ≤ n → ∀ j, j < k → invP f k (f j).toNat = UInt8.ofNat j
  | 0, _, j, hj => absurd hj (Nat.not_lt_zero j)
  | k + 1, hk, j, hj => by
    show upd (invP f k) (f k).toNat (UInt8.ofNat k) (f j).toNat = UInt8.ofNat j
    unfold upd
    by_cases e : j = k
    · subst e; rw [if_pos rfl]
    · rw [if_neg fun h => e (hi j k (by omega) (by omega) (UInt8.toNat_inj.1 h))]
      exact invP_at hn hi k (by omega) j (by omega)
theorem plOk_inj {p : Nat → UInt8} (h : plOk p = true) : ∀ i j, i < 16 → j < 16 → p i = p j → i = j := by
  unfold plOk at h
  rw [Bool.and_eq_true] at h
  exact (twice_iff p 16).1 (by simpa using h.2)
theorem plOk_surj {p : Nat → UInt8} (h : plOk p = true) {y : Nat} (hy : y < 16) : ∃ i, i < 16 ∧ (p i).toNat = y :=
  inj_surj 16 (fun i => (p i).toNat) (fun i hi => plOk_lt h hi) (fun i j hi hj e => plOk_inj h i j hi hj (UInt8.toNat_inj.1 e)) y hy
theorem invP_pl {p : Nat → UInt8} (h : plOk p = true) {j : Nat} (hj : j < 16) : invP p 16 (p j).toNat = UInt8.ofNat j :=
  invP_at (by omega) (plOk_inj h) 16 (Nat.le_refl _) j hj
theorem pl_invP {p : Nat → UInt8} (h : plOk p = true) {i : Nat} (hi : i < 16) : (p (invP p 16 i).toNat).toNat = i := by
  obtain ⟨j, hj, rfl⟩ := plOk_surj h hi
  rw [invP_pl h hj, u8_ofNat_toNat (by omega)]
/-- Moving back leaves a block. -/
theorem mov_back {p : Nat → UInt8} (h : plOk p = true) (b : Nat → UInt8) {i : Nat} (hi : i < 16) : movF (invP p 16) (movF p b) i = b i := by
  show b (p (invP p 16 i).toNat).toNat = b i
  rw [pl_invP h hi]
theorem boxOk_inj {f : Nat → UInt8} (h : boxOk f = true) : ∀ i j, i < 256 → j < 256 → f i = f j → i = j := by
  unfold boxOk at h
  exact (twice_iff f 256).1 (by simpa using h)
theorem invP_box {f : Nat → UInt8} (h : boxOk f = true) (x : UInt8) : invP f 256 (f x.toNat).toNat = x := by
  rw [invP_at (Nat.le_refl _) (boxOk_inj h) 256 (Nat.le_refl _) x.toNat (u8_lt x)]
  exact UInt8.ofNat_toNat
theorem mixF_cong {m : Nat} {a b x y : Nat → UInt8} (h : ∀ i, i < 16 → a i = b i) (h2 : ∀ i, i < 16 → x i = y i) {n : Nat} (hn : n < 16) : mixF m a x n = mixF m b y n := by
  show mxP m a x (n / 4) (n % 4) 4 = mxP m b y (n / 4) (n % 4) 4
  rw [mix_D, mix_D]
  unfold D
  exact dt_cong (fun t ht => h _ (by omega)) (fun t ht => h2 _ (by omega))
end Go.Proofs.Ytcfpninklbnifaa
/- Deciphering undoes enciphering. -/
namespace Go.Proofs.Ytcfpninklbnifaa
set_option linter.unusedSimpArgs false
set_option linter.unusedVariables false
set_option maxRecDepth 20000
set_option maxHeartbeats 1000000
open Go.Abs

theorem bef_lay {m : Nat} (h0 : 256 ≤ m) (h1 : m < 512) (hf : fieldB m = true) {mx pl : Nat → UInt8} (hd : detF m mx ≠ 0) (hp : plOk pl = true) {e d : Nat → UInt8} (last : Bool)
    (h : ∀ i, i < 16 → e i = layF m mx pl d last i) {i : Nat} (hi : i < 16) : befF m mx pl e last i = d i := by
  have hlt : (invP pl 16 i).toNat < 16 := invP_lt pl 16 (Nat.le_refl _) i
  cases last
  · show mixF m (backF m mx) e (invP pl 16 i).toNat = d i
    rw [mixF_cong (fun _ _ => rfl) (show ∀ i, i < 16 → e i = mixF m mx (movF pl d) i from h) hlt, mix_back h0 h1 hf hd _ hlt]
    exact mov_back hp d hi
  · show e (invP pl 16 i).toNat = d i
    rw [h _ hlt]
    exact mov_back hp d hi
theorem xorF_back {a b c : Nat → UInt8} {i : Nat} (h : a i = xorF b c i) : xorF a c i = b i := by
  show a i ^^^ c i = b i
  rw [h]
  show (b i ^^^ c i) ^^^ c i = b i
  rw [UInt8.xor_assoc, UInt8.xor_self, UInt8.xor_zero]
section
variable {m : Nat} (h0 : 256 ≤ m) (h1 : m < 512) (hf : fieldB m = true) {bx mx pl : Nat → UInt8} (hd : detF m mx ≠ 0) (hp : plOk pl = true) (hb : boxOk bx = true) (y s : Nat → UInt8) (n : Nat)
include h0 h1 hf hd hp hb
theorem dec_enc {e : Nat → UInt8} (he : ∀ i, i < 16 → e i = encF m bx mx pl y s n i) : ∀ k, k ≤ n → ∀ i, i < 16 → decP m bx mx pl y e n k i = encP m bx mx pl y s n (n - k) i
  | 0, _, i, hi => he i hi
  | k + 1, hk, i, hi => by
    have ih := dec_enc he k (by omega)
    obtain ⟨r, hr⟩ : ∃ r, n - k = r + 1 := ⟨n - k - 1, by omega⟩
    have hr2 : n - (k + 1) = r := by omega
    rw [hr2]
    have hl : decide (n ≤ r + 1) = decide (k = 0) := decide_eq_decide.2 (by omega)
    show invP bx 256 (befF m mx pl (xorF (decP m bx mx pl y e n k) (kyF bx y (n - k))) (decide (k = 0)) i).toNat = _
    rw [bef_lay h0 h1 hf hd hp (d := boxF bx (encP m bx mx pl y s n r)) (decide (k = 0)) (fun j hj => by
      refine xorF_back ?_
      rw [ih j hj, hr]
      show xorF (layF m mx pl (boxF bx (encP m bx mx pl y s n r)) (decide (n ≤ r + 1))) (kyF bx y (r + 1)) j = _
      rw [hl]) hi]
    exact invP_box hb _
/-- Deciphering undoes enciphering. -/
theorem decF_encF {e : Nat → UInt8} (he : ∀ i, i < 16 → e i = encF m bx mx pl y s n i) {i : Nat} (hi : i < 16) : decF m bx mx pl y e n i = s i := by
  refine xorF_back ?_
  rw [dec_enc h0 h1 hf hd hp hb y s n he n (Nat.le_refl _) i hi, Nat.sub_self]
  rfl
end
end Go.Proofs.Ytcfpninklbnifaa
