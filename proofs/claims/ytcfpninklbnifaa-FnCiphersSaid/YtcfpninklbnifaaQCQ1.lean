/- A part of the proof of FnCiphers. -/
import Derived.Test.YtcfpninklbnifaaQCQH
/- Powers, inverses, mixing a block. -/
namespace Go.Proofs.Ytcfpninklbnifaa
set_option linter.unusedSimpArgs false
set_option linter.unusedVariables false
set_option maxRecDepth 20000
set_option maxHeartbeats 1000000
open Go.Abs

/-- The product of two bytes modulo m. -/
def tm (m : Nat) (a b : UInt8) : UInt8 := UInt8.ofNat (mulN m a.toNat b.toNat)
/-- Squared i times. -/
def sqP (m : Nat) (a : UInt8) : Nat → UInt8
  | 0 => a
  | i + 1 => tm m (sqP m a i) (sqP m a i)
def poP (m : Nat) (a : UInt8) (e : Nat) : Nat → UInt8
  | 0 => 1
  | i + 1 => if e.testBit i then tm m (poP m a e i) (sqP m a i) else poP m a e i
def po (m : Nat) (a : UInt8) (e : Nat) : UInt8 := poP m a e (blen e)
def inv (m : Nat) (a : UInt8) : UInt8 := po m a 254
theorem poP_t {m : Nat} {a : UInt8} {e i : Nat} (h : e.testBit i = true) : poP m a e (i + 1) = tm m (poP m a e i) (sqP m a i) := by rw [poP, if_pos h]
theorem poP_f {m : Nat} {a : UInt8} {e i : Nat} (h : e.testBit i = false) : poP m a e (i + 1) = poP m a e i := by rw [poP, h]; rfl

theorem tmS_ac {m : Nat} (h0 : 256 ≤ m) (h1 : m < 512) (a b : UInt8) (h : List Blk) : AC Try.prog 113 [.int .i64 m, B a, B b] h (B (tm m a b)) h := timesS_ac h0 h1 a b h
theorem tmI_ac {m : Nat} (h0 : 256 ≤ m) (h1 : m < 512) (a b : UInt8) (h : List Blk) : AC Try.prog 116 [.int .i64 m, B a, B b] h (B (tm m a b)) h := timesI_ac h0 h1 a b h
theorem poS_ac {m : Nat} (h0 : 256 ≤ m) (h1 : m < 512) (a : UInt8) {e : Nat} (he : e < 9223372036854775808) (h : List Blk) : AC Try.prog 121 [.int .i64 m, B a, .int .i64 e] h (B (po m a e)) h := by
  (refine AC_begin (fun _ _ => Try.call121 _ _) Try.func121 rfl Try.ntmps121 Try.results121 (fun hwf => ?_); simp only [List.length_cons, List.length_nil, Nat.reduceAdd, Nat.reduceSub, List.replicate, List.cons_append, List.nil_append])
  (repeat (first | ((first | (refine And.intro ?_ ?_; focus exact PLA) | refine WA_seq (WA_region ?_) | refine WA_region ?_ | refine WA_exit ?_); try simp (maxSteps := 1000000) (disch := first | omega | rfl | decide | (simp only [List.length_cons, List.length_nil, List.length_append, Bs_length, Is_length, Vs_length, Bl_length, Il_length] <;> omega)) only [go_sem, Nat.reduceAdd, Int.reduceAdd, Int.reduceSub, Int.reduceMul, Bool.not_true, Bool.not_false]) | refine WA_seq ?_ | refine WA_block ?_ | (refine WA_skip ?_; try simp only [go_sem]) | (refine WA_ret ?_; try simp only [go_sem]) | refine WA_ct rfl ?_ | refine WA_cf rfl ?_))
  refine WA_forH (fun k => [(1, B (sqP m a k)), (2, .int .i64 ((e >>> k : Nat))), (7, B (poP m a e k)), (8, J), (9, J), (10, J), (11, J), (12, J), (13, J), (14, J), (15, J), (16, J), (17, J), (18, J), (19, J), (20, J), (21, J), (22, J)]) (fun k => h) (blen e) ?_ ?_ ?_ <;> (try simp only [patT_cons, patT_nil, patL_cons, patL_nil, list_set_zero, list_set_succ, blk_set_zero, blk_set_succ])
  · (refine Drop_slots (by first | exact Nat.le_refl _ | simp) ?_; focus ((try simp only [JL_same, JL_J, JL_nil, Int.reduceAdd, Nat.sub_sub, Int.natCast_add, Int.natCast_one, Int.natCast_zero, Int.cast_ofNat_Int, Nat.add_zero, Bool.false_eq_true, if_false, if_true, sqP, poP, Nat.shiftRight_zero]); (try exact JL_refl _)))
  · intro k hk
    have hp := blen_pos hk
    have hs := Nat.shiftRight_le e k
    have hw := wrap_N (n := e >>> (k+1)) (Nat.lt_of_le_of_lt (Nat.shiftRight_le e (k + 1)) he)
    cases hb : e.testBit k
    · (repeat (first | ((first | (refine And.intro ?_ ?_; focus exact PLA) | ((first | with_reducible apply callB_i | with_reducible apply callK_intro | with_reducible apply callQ_i); (focus (first | assumption | (with_reducible apply tmS_ac h0 h1 <;> (first | assumption | rfl | (simp (disch := omega) only [go_sem]; first | done | rfl) | omega | decide | (simp; done))))); (try exact WP_au)) | refine WA_seq (WA_region ?_) | refine WA_region ?_ | refine WA_exit ?_); try simp (maxSteps := 1000000) (disch := first | omega | rfl | decide | (simp only [List.length_cons, List.length_nil, List.length_append, Bs_length, Is_length, Vs_length, Bl_length, Il_length] <;> omega)) only [go_sem, Nat.reduceAdd, Int.reduceAdd, Int.reduceSub, Int.reduceMul, Bool.not_true, Bool.not_false, hb, hw]) | refine WA_seq ?_ | refine WA_block ?_ | (refine WA_skip ?_; try simp only [go_sem]) | (refine WA_ret ?_; try simp only [go_sem]) | refine WA_ct rfl ?_ | refine WA_cf rfl ?_))
      (refine Drop_slots (by first | exact Nat.le_refl _ | simp) ?_; focus ((try simp only [JL_same, JL_J, JL_nil, Int.reduceAdd, Nat.sub_sub, Int.natCast_add, Int.natCast_one, Int.natCast_zero, Int.cast_ofNat_Int, Nat.add_zero, Bool.false_eq_true, if_false, if_true, poP_f hb, sqP]); (try exact JL_refl _)))
    · (repeat (first | ((first | (refine And.intro ?_ ?_; focus exact PLA) | ((first | with_reducible apply callB_i | with_reducible apply callK_intro | with_reducible apply callQ_i); (focus (first | assumption | (with_reducible apply tmS_ac h0 h1 <;> (first | assumption | rfl | (simp (disch := omega) only [go_sem]; first | done | rfl) | omega | decide | (simp; done))))); (try exact WP_au)) | refine WA_seq (WA_region ?_) | refine WA_region ?_ | refine WA_exit ?_); try simp (maxSteps := 1000000) (disch := first | omega | rfl | decide | (simp only [List.length_cons, List.length_nil, List.length_append, Bs_length, Is_length, Vs_length, Bl_length, Il_length] <;> omega)) only [go_sem, Nat.reduceAdd, Int.reduceAdd, Int.reduceSub, Int.reduceMul, Bool.not_true, Bool.not_false, hb, hw]) | refine WA_seq ?_ | refine WA_block ?_ | (refine WA_skip ?_; try simp only [go_sem]) | (refine WA_ret ?_; try simp only [go_sem]) | refine WA_ct rfl ?_ | refine WA_cf rfl ?_))
      (refine Drop_slots (by first | exact Nat.le_refl _ | simp) ?_; focus ((try simp only [JL_same, JL_J, JL_nil, Int.reduceAdd, Nat.sub_sub, Int.natCast_add, Int.natCast_one, Int.natCast_zero, Int.cast_ofNat_Int, Nat.add_zero, Bool.false_eq_true, if_false, if_true, poP_t hb, sqP]); (try exact JL_refl _)))
  · (repeat (first | ((first | (refine And.intro ?_ ?_; focus exact PLA) | refine WA_seq (WA_region ?_) | refine WA_region ?_ | refine WA_exit ?_); try simp (maxSteps := 1000000) (disch := first | omega | rfl | decide | (simp only [List.length_cons, List.length_nil, List.length_append, Bs_length, Is_length, Vs_length, Bl_length, Il_length] <;> omega)) only [go_sem, Nat.reduceAdd, Int.reduceAdd, Int.reduceSub, Int.reduceMul, Bool.not_true, Bool.not_false, blen_done]) | refine WA_seq ?_ | refine WA_block ?_ | (refine WA_skip ?_; try simp only [go_sem]) | (refine WA_ret ?_; try simp only [go_sem]) | refine WA_ct rfl ?_ | refine WA_cf rfl ?_))
    ((first | refine ret_nA ?_ | refine ret_sA ?_ | refine ret_fA ?_); simp (maxSteps := 1000000) (disch := first | omega | rfl | decide | (simp only [List.length_cons, List.length_nil, List.length_append, Bs_length, Is_length, Vs_length, Bl_length, Il_length] <;> omega)) only [go_sem, Nat.reduceAdd, Int.reduceAdd, Int.reduceSub, Int.reduceMul, Bool.not_true, Bool.not_false, po]; try rfl)

theorem poI_ac {m : Nat} (h0 : 256 ≤ m) (h1 : m < 512) (a : UInt8) {e : Nat} (he : e < 9223372036854775808) (h : List Blk) : AC Try.prog 119 [.int .i64 m, B a, .int .i64 e] h (B (po m a e)) h := by
  (refine AC_begin (fun _ _ => Try.call119 _ _) Try.func119 rfl Try.ntmps119 Try.results119 (fun hwf => ?_); simp only [List.length_cons, List.length_nil, Nat.reduceAdd, Nat.reduceSub, List.replicate, List.cons_append, List.nil_append])
  (repeat (first | ((first | (refine And.intro ?_ ?_; focus exact PLA) | refine WA_seq (WA_region ?_) | refine WA_region ?_ | refine WA_exit ?_); try simp (maxSteps := 1000000) (disch := first | omega | rfl | decide | (simp only [List.length_cons, List.length_nil, List.length_append, Bs_length, Is_length, Vs_length, Bl_length, Il_length] <;> omega)) only [go_sem, Nat.reduceAdd, Int.reduceAdd, Int.reduceSub, Int.reduceMul, Bool.not_true, Bool.not_false]) | refine WA_seq ?_ | refine WA_block ?_ | (refine WA_skip ?_; try simp only [go_sem]) | (refine WA_ret ?_; try simp only [go_sem]) | refine WA_ct rfl ?_ | refine WA_cf rfl ?_))
  refine WA_forH (fun k => [(1, B (sqP m a k)), (2, .int .i64 ((e >>> k : Nat))), (7, B (poP m a e k)), (8, J), (9, J), (10, J), (11, J), (12, J), (13, J), (14, J), (15, J), (16, J), (17, J), (18, J), (19, J), (20, J), (21, J), (22, J)]) (fun k => h) (blen e) ?_ ?_ ?_ <;> (try simp only [patT_cons, patT_nil, patL_cons, patL_nil, list_set_zero, list_set_succ, blk_set_zero, blk_set_succ])
  · (refine Drop_slots (by first | exact Nat.le_refl _ | simp) ?_; focus ((try simp only [JL_same, JL_J, JL_nil, Int.reduceAdd, Nat.sub_sub, Int.natCast_add, Int.natCast_one, Int.natCast_zero, Int.cast_ofNat_Int, Nat.add_zero, Bool.false_eq_true, if_false, if_true, sqP, poP, Nat.shiftRight_zero]); (try exact JL_refl _)))
  · intro k hk
    have hp := blen_pos hk
    have hs := Nat.shiftRight_le e k
    have hw := wrap_N (n := e >>> (k+1)) (Nat.lt_of_le_of_lt (Nat.shiftRight_le e (k + 1)) he)
    cases hb : e.testBit k
    · (repeat (first | ((first | (refine And.intro ?_ ?_; focus exact PLA) | ((first | with_reducible apply callB_i | with_reducible apply callK_intro | with_reducible apply callQ_i); (focus (first | assumption | (with_reducible apply tmI_ac h0 h1 <;> (first | assumption | rfl | (simp (disch := omega) only [go_sem]; first | done | rfl) | omega | decide | (simp; done))))); (try exact WP_au)) | refine WA_seq (WA_region ?_) | refine WA_region ?_ | refine WA_exit ?_); try simp (maxSteps := 1000000) (disch := first | omega | rfl | decide | (simp only [List.length_cons, List.length_nil, List.length_append, Bs_length, Is_length, Vs_length, Bl_length, Il_length] <;> omega)) only [go_sem, Nat.reduceAdd, Int.reduceAdd, Int.reduceSub, Int.reduceMul, Bool.not_true, Bool.not_false, hb, hw]) | refine WA_seq ?_ | refine WA_block ?_ | (refine WA_skip ?_; try simp only [go_sem]) | (refine WA_ret ?_; try simp only [go_sem]) | refine WA_ct rfl ?_ | refine WA_cf rfl ?_))
      (refine Drop_slots (by first | exact Nat.le_refl _ | simp) ?_; focus ((try simp only [JL_same, JL_J, JL_nil, Int.reduceAdd, Nat.sub_sub, Int.natCast_add, Int.natCast_one, Int.natCast_zero, Int.cast_ofNat_Int, Nat.add_zero, Bool.false_eq_true, if_false, if_true, poP_f hb, sqP]); (try exact JL_refl _)))
    · (repeat (first | ((first | (refine And.intro ?_ ?_; focus exact PLA) | ((first | with_reducible apply callB_i | with_reducible apply callK_intro | with_reducible apply callQ_i); (focus (first | assumption | (with_reducible apply tmI_ac h0 h1 <;> (first | assumption | rfl | (simp (disch := omega) only [go_sem]; first | done | rfl) | omega | decide | (simp; done))))); (try exact WP_au)) | refine WA_seq (WA_region ?_) | refine WA_region ?_ | refine WA_exit ?_); try simp (maxSteps := 1000000) (disch := first | omega | rfl | decide | (simp only [List.length_cons, List.length_nil, List.length_append, Bs_length, Is_length, Vs_length, Bl_length, Il_length] <;> omega)) only [go_sem, Nat.reduceAdd, Int.reduceAdd, Int.reduceSub, Int.reduceMul, Bool.not_true, Bool.not_false, hb, hw]) | refine WA_seq ?_ | refine WA_block ?_ | (refine WA_skip ?_; try simp only [go_sem]) | (refine WA_ret ?_; try simp only [go_sem]) | refine WA_ct rfl ?_ | refine WA_cf rfl ?_))
      (refine Drop_slots (by first | exact Nat.le_refl _ | simp) ?_; focus ((try simp only [JL_same, JL_J, JL_nil, Int.reduceAdd, Nat.sub_sub, Int.natCast_add, Int.natCast_one, Int.natCast_zero, Int.cast_ofNat_Int, Nat.add_zero, Bool.false_eq_true, if_false, if_true, poP_t hb, sqP]); (try exact JL_refl _)))
  · (repeat (first | ((first | (refine And.intro ?_ ?_; focus exact PLA) | refine WA_seq (WA_region ?_) | refine WA_region ?_ | refine WA_exit ?_); try simp (maxSteps := 1000000) (disch := first | omega | rfl | decide | (simp only [List.length_cons, List.length_nil, List.length_append, Bs_length, Is_length, Vs_length, Bl_length, Il_length] <;> omega)) only [go_sem, Nat.reduceAdd, Int.reduceAdd, Int.reduceSub, Int.reduceMul, Bool.not_true, Bool.not_false, blen_done]) | refine WA_seq ?_ | refine WA_block ?_ | (refine WA_skip ?_; try simp only [go_sem]) | (refine WA_ret ?_; try simp only [go_sem]) | refine WA_ct rfl ?_ | refine WA_cf rfl ?_))
    ((first | refine ret_nA ?_ | refine ret_sA ?_ | refine ret_fA ?_); simp (maxSteps := 1000000) (disch := first | omega | rfl | decide | (simp only [List.length_cons, List.length_nil, List.length_append, Bs_length, Is_length, Vs_length, Bl_length, Il_length] <;> omega)) only [go_sem, Nat.reduceAdd, Int.reduceAdd, Int.reduceSub, Int.reduceMul, Bool.not_true, Bool.not_false, po]; try rfl)

theorem invS_ac {m : Nat} (h0 : 256 ≤ m) (h1 : m < 512) (a : UInt8) (h : List Blk) : AC Try.prog 101 [.int .i64 m, B a] h (B (inv m a)) h := by
  (refine AC_begin (fun _ _ => Try.call101 _ _) Try.func101 rfl Try.ntmps101 Try.results101 (fun hwf => ?_); simp only [List.length_cons, List.length_nil, Nat.reduceAdd, Nat.reduceSub, List.replicate, List.cons_append, List.nil_append])
  have hp : AC Try.prog 121 [.int .i64 m, B a, .int .i64 254] h (B (po m a 254)) h := poS_ac h0 h1 a (e := 254) (by omega) h
  (repeat (first | ((first | (refine And.intro ?_ ?_; focus exact PLA) | ((first | with_reducible apply callB_i | with_reducible apply callK_intro | with_reducible apply callQ_i); (focus (first | assumption | (with_reducible apply hp <;> (first | assumption | rfl | (simp (disch := omega) only [go_sem]; first | done | rfl) | omega | decide | (simp; done))))); (try exact WP_au)) | refine WA_seq (WA_region ?_) | refine WA_region ?_ | refine WA_exit ?_); try simp (maxSteps := 1000000) (disch := first | omega | rfl | decide | (simp only [List.length_cons, List.length_nil, List.length_append, Bs_length, Is_length, Vs_length, Bl_length, Il_length] <;> omega)) only [go_sem, Nat.reduceAdd, Int.reduceAdd, Int.reduceSub, Int.reduceMul, Bool.not_true, Bool.not_false]) | refine WA_seq ?_ | refine WA_block ?_ | (refine WA_skip ?_; try simp only [go_sem]) | (refine WA_ret ?_; try simp only [go_sem]) | refine WA_ct rfl ?_ | refine WA_cf rfl ?_))
  ((first | refine ret_nA ?_ | refine ret_sA ?_ | refine ret_fA ?_); simp (maxSteps := 1000000) (disch := first | omega | rfl | decide | (simp only [List.length_cons, List.length_nil, List.length_append, Bs_length, Is_length, Vs_length, Bl_length, Il_length] <;> omega)) only [go_sem, Nat.reduceAdd, Int.reduceAdd, Int.reduceSub, Int.reduceMul, Bool.not_true, Bool.not_false, inv]; try rfl)

theorem invI_ac {m : Nat} (h0 : 256 ≤ m) (h1 : m < 512) (a : UInt8) (h : List Blk) : AC Try.prog 96 [.int .i64 m, B a] h (B (inv m a)) h := by
  (refine AC_begin (fun _ _ => Try.call96 _ _) Try.func96 rfl Try.ntmps96 Try.results96 (fun hwf => ?_); simp only [List.length_cons, List.length_nil, Nat.reduceAdd, Nat.reduceSub, List.replicate, List.cons_append, List.nil_append])
  have hp : AC Try.prog 119 [.int .i64 m, B a, .int .i64 254] h (B (po m a 254)) h := poI_ac h0 h1 a (e := 254) (by omega) h
  (repeat (first | ((first | (refine And.intro ?_ ?_; focus exact PLA) | ((first | with_reducible apply callB_i | with_reducible apply callK_intro | with_reducible apply callQ_i); (focus (first | assumption | (with_reducible apply hp <;> (first | assumption | rfl | (simp (disch := omega) only [go_sem]; first | done | rfl) | omega | decide | (simp; done))))); (try exact WP_au)) | refine WA_seq (WA_region ?_) | refine WA_region ?_ | refine WA_exit ?_); try simp (maxSteps := 1000000) (disch := first | omega | rfl | decide | (simp only [List.length_cons, List.length_nil, List.length_append, Bs_length, Is_length, Vs_length, Bl_length, Il_length] <;> omega)) only [go_sem, Nat.reduceAdd, Int.reduceAdd, Int.reduceSub, Int.reduceMul, Bool.not_true, Bool.not_false]) | refine WA_seq ?_ | refine WA_block ?_ | (refine WA_skip ?_; try simp only [go_sem]) | (refine WA_ret ?_; try simp only [go_sem]) | refine WA_ct rfl ?_ | refine WA_cf rfl ?_))
  ((first | refine ret_nA ?_ | refine ret_sA ?_ | refine ret_fA ?_); simp (maxSteps := 1000000) (disch := first | omega | rfl | decide | (simp only [List.length_cons, List.length_nil, List.length_append, Bs_length, Is_length, Vs_length, Bl_length, Il_length] <;> omega)) only [go_sem, Nat.reduceAdd, Int.reduceAdd, Int.reduceSub, Int.reduceMul, Bool.not_true, Bool.not_false, inv]; try rfl)

/-- One byte of a mixed block: the first k products. -/
def mxP (m : Nat) (a b : Nat → UInt8) (c i : Nat) : Nat → UInt8
  | 0 => 0
  | k + 1 => mxP m a b c i k ^^^ tm m (a (i * 4 + k)) (b (4 * c + k))
def mixF (m : Nat) (a b : Nat → UInt8) : Nat → UInt8 := fun n => mxP m a b (n / 4) (n % 4) 4
/-- n bytes done, and the n-th begun. -/
def doneF (g : Nat → UInt8) (n : Nat) (x : UInt8) : Nat → UInt8 := fun i => if i < n then g i else if i = n then x else 0
theorem doneF_start (g : Nat → UInt8) : doneF g 0 0 = fun _ => 0 := by funext i; simp [doneF]
theorem doneF_set (g : Nat → UInt8) (n : Nat) (x y : UInt8) : upd (doneF g n x) n y = doneF g n y := by
  funext i; unfold upd doneF; by_cases h : i = n
  · subst h; simp
  · simp [h]
theorem doneF_at (g : Nat → UInt8) (n : Nat) (x : UInt8) : doneF g n x n = x := by simp [doneF]
theorem doneF_next {g : Nat → UInt8} {n : Nat} {x : UInt8} (h : g n = x) : doneF g n x = doneF g (n + 1) 0 := by
  funext i; unfold doneF; by_cases h1 : i < n
  · rw [if_pos h1, if_pos (by omega)]
  · by_cases h2 : i = n
    · subst h2; rw [if_neg h1, if_pos rfl, if_pos (by omega), h]
    · rw [if_neg h1, if_neg h2, if_neg (by omega)]; simp
theorem doneF_all (g : Nat → UInt8) (n : Nat) (x : UInt8) : Bs n (doneF g n x) = Bs n g := Bs_congr fun i hi => by simp [doneF, hi]

theorem mixS_ac {m : Nat} (h0 : 256 ≤ m) (h1 : m < 512) (a b : Nat → UInt8) (h : List Blk) : AC Try.prog 83 [.int .i64 m, .agg (Bs 16 a).toArray, .agg (Bs 16 b).toArray] h (.agg (Bs 16 (mixF m a b)).toArray) h := by
  (refine AC_begin (fun _ _ => Try.call83 _ _) Try.func83 rfl Try.ntmps83 Try.results83 (fun hwf => ?_); simp only [List.length_cons, List.length_nil, Nat.reduceAdd, Nat.reduceSub, List.replicate, List.cons_append, List.nil_append])
  (repeat (first | ((first | (refine And.intro ?_ ?_; focus exact PLA) | refine WA_seq (WA_region ?_) | refine WA_region ?_ | refine WA_exit ?_); try simp (maxSteps := 1000000) (disch := first | omega | rfl | decide | (simp only [List.length_cons, List.length_nil, List.length_append, Bs_length, Is_length, Vs_length, Bl_length, Il_length] <;> omega)) only [go_sem, Nat.reduceAdd, Int.reduceAdd, Int.reduceSub, Int.reduceMul, Bool.not_true, Bool.not_false]) | (refine (WA_rb (id := 11) [25] (SubM.refl _) mixedOk ?_); simp only [List.size_toArray, List.length_cons, List.length_nil]; (repeat (first | ((first | (refine And.intro ?_ ?_; focus exact PLA) | refine RB_take false [0, 1, 2, 3, 4, 5, 6, 7, 8, 10, 11, 12, 13, 14, 16, 17, 18, 19, 20] 7 (by rfl) (by kernel_rfl) (by decide) (by decide +kernel) ?_ | refine RB_take true [9, 15, 21, 22] 3 (by rfl) (by kernel_rfl) (by decide) (by decide +kernel) ?_ | refine RB_take false [23, 24] 1 (by rfl) (by kernel_rfl) (by decide) (by decide +kernel) ?_ | refine RB_exec 25 _ (by rfl) (by decide +kernel) (by decide +kernel) ?_ | refine RB_done (by decide +kernel) ?_); try simp (maxSteps := 1000000) (disch := first | omega | rfl | decide | (simp only [List.length_cons, List.length_nil, List.length_append, Bs_length, Is_length, Vs_length, Bl_length, Il_length] <;> omega)) only [go_sem, Nat.reduceAdd, Int.reduceAdd, Int.reduceSub, Int.reduceMul, Bool.not_true, Bool.not_false])))) | refine WA_seq ?_ | refine WA_block ?_ | (refine WA_skip ?_; try simp only [go_sem]) | (refine WA_ret ?_; try simp only [go_sem]) | refine WA_ct rfl ?_ | refine WA_cf rfl ?_))
  refine WA_forP (fun k => [(8, .int .i64 k), (9, J), (10, J), (12, J), (13, J), (14, J), (15, J), (16, J), (17, J), (18, J), (19, J), (20, J), (21, J), (22, J), (23, J), (24, J), (25, J), (26, J), (27, J), (28, J), (29, J), (30, J), (31, J), (32, J), (33, J), (34, J), (35, J), (36, J), (37, J), (38, J), (39, J), (40, J), (41, J), (42, J), (43, J), (44, J), (45, J), (46, J), (47, J), (48, J)]) (fun k => [(3, ⟨Bs 16 (doneF (mixF m a b) (4 * k) 0), true⟩)]) (4) ?_ ?_ ?_ <;> (try simp only [patT_cons, patT_nil, patL_cons, patL_nil, list_set_zero, list_set_succ, blk_set_zero, blk_set_succ])
  · (refine Drop_slots (by first | exact Nat.le_refl _ | simp) ?_; focus ((try simp only [JL_same, JL_J, JL_nil, Int.reduceAdd, Nat.sub_sub, Int.natCast_add, Int.natCast_one, Int.natCast_zero, Int.cast_ofNat_Int, Nat.add_zero, Bool.false_eq_true, if_false, if_true, doneF_start, Nat.mul_zero]); (try exact JL_refl _)))
  · intro c hc
    (repeat (first | ((first | (refine And.intro ?_ ?_; focus exact PLA) | refine WA_seq (WA_region ?_) | refine WA_region ?_ | refine WA_exit ?_); try simp (maxSteps := 1000000) (disch := first | omega | rfl | decide | (simp only [List.length_cons, List.length_nil, List.length_append, Bs_length, Is_length, Vs_length, Bl_length, Il_length] <;> omega)) only [go_sem, Nat.reduceAdd, Int.reduceAdd, Int.reduceSub, Int.reduceMul, Bool.not_true, Bool.not_false]) | (refine (WA_rb (id := 11) [25] (SubM.refl _) mixedOk ?_); simp only [List.size_toArray, List.length_cons, List.length_nil]; (repeat (first | ((first | (refine And.intro ?_ ?_; focus exact PLA) | refine RB_take false [0, 1, 2, 3, 4, 5, 6, 7, 8, 10, 11, 12, 13, 14, 16, 17, 18, 19, 20] 7 (by rfl) (by kernel_rfl) (by decide) (by decide +kernel) ?_ | refine RB_take true [9, 15, 21, 22] 3 (by rfl) (by kernel_rfl) (by decide) (by decide +kernel) ?_ | refine RB_take false [23, 24] 1 (by rfl) (by kernel_rfl) (by decide) (by decide +kernel) ?_ | refine RB_exec 25 _ (by rfl) (by decide +kernel) (by decide +kernel) ?_ | refine RB_done (by decide +kernel) ?_); try simp (maxSteps := 1000000) (disch := first | omega | rfl | decide | (simp only [List.length_cons, List.length_nil, List.length_append, Bs_length, Is_length, Vs_length, Bl_length, Il_length] <;> omega)) only [go_sem, Nat.reduceAdd, Int.reduceAdd, Int.reduceSub, Int.reduceMul, Bool.not_true, Bool.not_false])))) | refine WA_seq ?_ | refine WA_block ?_ | (refine WA_skip ?_; try simp only [go_sem]) | (refine WA_ret ?_; try simp only [go_sem]) | refine WA_ct rfl ?_ | refine WA_cf rfl ?_))
    refine WA_forP (fun k => [(8, .int .i64 (c)), (9, .int .i64 k), (10, J), (16, J), (17, J), (18, J), (19, J), (20, J), (21, J), (22, J), (23, J), (24, J), (25, J), (26, J), (27, J), (28, J), (29, J), (30, J), (31, J), (32, J), (33, J), (34, J), (35, J), (36, J), (37, J), (38, J), (39, J), (40, J), (41, J), (42, J), (43, J), (44, J), (45, J), (46, J), (47, J), (48, J)]) (fun k => [(3, ⟨Bs 16 (doneF (mixF m a b) (4 * c + k) 0), true⟩)]) (4) ?_ ?_ ?_ <;> (try simp only [patT_cons, patT_nil, patL_cons, patL_nil, list_set_zero, list_set_succ, blk_set_zero, blk_set_succ])
    · (refine Drop_slots (by first | exact Nat.le_refl _ | simp) ?_; focus ((try simp only [JL_same, JL_J, JL_nil, Int.reduceAdd, Nat.sub_sub, Int.natCast_add, Int.natCast_one, Int.natCast_zero, Int.cast_ofNat_Int, Nat.add_zero, Bool.false_eq_true, if_false, if_true]); (try exact JL_refl _)))
    · intro i hi
      (repeat (first | ((first | (refine And.intro ?_ ?_; focus exact PLA) | refine WA_seq (WA_region ?_) | refine WA_region ?_ | refine WA_exit ?_); try simp (maxSteps := 1000000) (disch := first | omega | rfl | decide | (simp only [List.length_cons, List.length_nil, List.length_append, Bs_length, Is_length, Vs_length, Bl_length, Il_length] <;> omega)) only [go_sem, Nat.reduceAdd, Int.reduceAdd, Int.reduceSub, Int.reduceMul, Bool.not_true, Bool.not_false]) | (refine (WA_rb (id := 11) [25] (SubM.refl _) mixedOk ?_); simp only [List.size_toArray, List.length_cons, List.length_nil]; (repeat (first | ((first | (refine And.intro ?_ ?_; focus exact PLA) | refine RB_take false [0, 1, 2, 3, 4, 5, 6, 7, 8, 10, 11, 12, 13, 14, 16, 17, 18, 19, 20] 7 (by rfl) (by kernel_rfl) (by decide) (by decide +kernel) ?_ | refine RB_take true [9, 15, 21, 22] 3 (by rfl) (by kernel_rfl) (by decide) (by decide +kernel) ?_ | refine RB_take false [23, 24] 1 (by rfl) (by kernel_rfl) (by decide) (by decide +kernel) ?_ | refine RB_exec 25 _ (by rfl) (by decide +kernel) (by decide +kernel) ?_ | refine RB_done (by decide +kernel) ?_); try simp (maxSteps := 1000000) (disch := first | omega | rfl | decide | (simp only [List.length_cons, List.length_nil, List.length_append, Bs_length, Is_length, Vs_length, Bl_length, Il_length] <;> omega)) only [go_sem, Nat.reduceAdd, Int.reduceAdd, Int.reduceSub, Int.reduceMul, Bool.not_true, Bool.not_false])))) | refine WA_seq ?_ | refine WA_block ?_ | (refine WA_skip ?_; try simp only [go_sem]) | (refine WA_ret ?_; try simp only [go_sem]) | refine WA_ct rfl ?_ | refine WA_cf rfl ?_))
      refine WA_forP (fun k => [(8, .int .i64 (c)), (9, .int .i64 (i)), (10, .int .i64 k), (20, J), (21, J), (22, J), (23, J), (24, J), (25, J), (26, J), (27, J), (28, J), (29, J), (30, J), (31, J), (32, J), (33, J), (34, J), (35, J), (36, J), (37, J), (38, J), (39, J), (40, J), (41, J), (42, J), (43, J), (44, J), (45, J), (46, J), (47, J), (48, J)]) (fun k => [(3, ⟨Bs 16 (doneF (mixF m a b) (4 * c + i) (mxP m a b c i k)), true⟩)]) (4) ?_ ?_ ?_ <;> (try simp only [patT_cons, patT_nil, patL_cons, patL_nil, list_set_zero, list_set_succ, blk_set_zero, blk_set_succ])
      · (refine Drop_slots (by first | exact Nat.le_refl _ | simp) ?_; focus ((try simp only [JL_same, JL_J, JL_nil, Int.reduceAdd, Nat.sub_sub, Int.natCast_add, Int.natCast_one, Int.natCast_zero, Int.cast_ofNat_Int, Nat.add_zero, Bool.false_eq_true, if_false, if_true, mxP]); (try exact JL_refl _)))
      · intro j hj
        (repeat (first | ((first | (refine And.intro ?_ ?_; focus exact PLA) | ((first | with_reducible apply callB_i | with_reducible apply callK_intro | with_reducible apply callQ_i); (focus (first | assumption | (with_reducible apply tmS_ac h0 h1 <;> (first | assumption | rfl | (simp (disch := omega) only [go_sem]; first | done | rfl) | omega | decide | (simp; done))))); (try exact WP_au)) | refine WA_seq (WA_region ?_) | refine WA_region ?_ | refine WA_exit ?_); try simp (maxSteps := 1000000) (disch := first | omega | rfl | decide | (simp only [List.length_cons, List.length_nil, List.length_append, Bs_length, Is_length, Vs_length, Bl_length, Il_length] <;> omega)) only [go_sem, Nat.reduceAdd, Int.reduceAdd, Int.reduceSub, Int.reduceMul, Bool.not_true, Bool.not_false, doneF_at, doneF_set]) | (refine (WA_rb (id := 11) [25] (SubM.refl _) mixedOk ?_); simp only [List.size_toArray, List.length_cons, List.length_nil]; (repeat (first | ((first | (refine And.intro ?_ ?_; focus exact PLA) | ((first | with_reducible apply callB_i | with_reducible apply callK_intro | with_reducible apply callQ_i); (focus (first | assumption | (with_reducible apply tmS_ac h0 h1 <;> (first | assumption | rfl | (simp (disch := omega) only [go_sem]; first | done | rfl) | omega | decide | (simp; done))))); (try exact WP_au)) | refine RB_take false [0, 1, 2, 3, 4, 5, 6, 7, 8, 10, 11, 12, 13, 14, 16, 17, 18, 19, 20] 7 (by rfl) (by kernel_rfl) (by decide) (by decide +kernel) ?_ | refine RB_take true [9, 15, 21, 22] 3 (by rfl) (by kernel_rfl) (by decide) (by decide +kernel) ?_ | refine RB_take false [23, 24] 1 (by rfl) (by kernel_rfl) (by decide) (by decide +kernel) ?_ | refine RB_exec 25 _ (by rfl) (by decide +kernel) (by decide +kernel) ?_ | refine RB_done (by decide +kernel) ?_); try simp (maxSteps := 1000000) (disch := first | omega | rfl | decide | (simp only [List.length_cons, List.length_nil, List.length_append, Bs_length, Is_length, Vs_length, Bl_length, Il_length] <;> omega)) only [go_sem, Nat.reduceAdd, Int.reduceAdd, Int.reduceSub, Int.reduceMul, Bool.not_true, Bool.not_false, doneF_at, doneF_set])))) | refine WA_seq ?_ | refine WA_block ?_ | (refine WA_skip ?_; try simp only [go_sem]) | (refine WA_ret ?_; try simp only [go_sem]) | refine WA_ct rfl ?_ | refine WA_cf rfl ?_))
        (refine Drop_slots (by first | exact Nat.le_refl _ | simp) ?_; focus ((try simp only [JL_same, JL_J, JL_nil, Int.reduceAdd, Nat.sub_sub, Int.natCast_add, Int.natCast_one, Int.natCast_zero, Int.cast_ofNat_Int, Nat.add_zero, Bool.false_eq_true, if_false, if_true, mxP]); (try exact JL_refl _)))
      · (repeat (first | ((first | (refine And.intro ?_ ?_; focus exact PLA) | refine WA_seq (WA_region ?_) | refine WA_region ?_ | refine WA_exit ?_); try simp (maxSteps := 1000000) (disch := first | omega | rfl | decide | (simp only [List.length_cons, List.length_nil, List.length_append, Bs_length, Is_length, Vs_length, Bl_length, Il_length] <;> omega)) only [go_sem, Nat.reduceAdd, Int.reduceAdd, Int.reduceSub, Int.reduceMul, Bool.not_true, Bool.not_false]) | (refine (WA_rb (id := 11) [25] (SubM.refl _) mixedOk ?_); simp only [List.size_toArray, List.length_cons, List.length_nil]; (repeat (first | ((first | (refine And.intro ?_ ?_; focus exact PLA) | refine RB_take false [0, 1, 2, 3, 4, 5, 6, 7, 8, 10, 11, 12, 13, 14, 16, 17, 18, 19, 20] 7 (by rfl) (by kernel_rfl) (by decide) (by decide +kernel) ?_ | refine RB_take true [9, 15, 21, 22] 3 (by rfl) (by kernel_rfl) (by decide) (by decide +kernel) ?_ | refine RB_take false [23, 24] 1 (by rfl) (by kernel_rfl) (by decide) (by decide +kernel) ?_ | refine RB_exec 25 _ (by rfl) (by decide +kernel) (by decide +kernel) ?_ | refine RB_done (by decide +kernel) ?_); try simp (maxSteps := 1000000) (disch := first | omega | rfl | decide | (simp only [List.length_cons, List.length_nil, List.length_append, Bs_length, Is_length, Vs_length, Bl_length, Il_length] <;> omega)) only [go_sem, Nat.reduceAdd, Int.reduceAdd, Int.reduceSub, Int.reduceMul, Bool.not_true, Bool.not_false])))) | refine WA_seq ?_ | refine WA_block ?_ | (refine WA_skip ?_; try simp only [go_sem]) | (refine WA_ret ?_; try simp only [go_sem]) | refine WA_ct rfl ?_ | refine WA_cf rfl ?_))
        have hd : mixF m a b (4 * c + i) = mxP m a b c i 4 := by unfold mixF; rw [show (4 * c + i) / 4 = c by omega, show (4 * c + i) % 4 = i by omega]
        rw [doneF_next hd]
        (refine Drop_slots (by first | exact Nat.le_refl _ | simp) ?_; focus ((try simp only [JL_same, JL_J, JL_nil, Int.reduceAdd, Nat.sub_sub, Int.natCast_add, Int.natCast_one, Int.natCast_zero, Int.cast_ofNat_Int, Nat.add_zero, Bool.false_eq_true, if_false, if_true]); (try exact JL_refl _)))
    · (repeat (first | ((first | (refine And.intro ?_ ?_; focus exact PLA) | refine WA_seq (WA_region ?_) | refine WA_region ?_ | refine WA_exit ?_); try simp (maxSteps := 1000000) (disch := first | omega | rfl | decide | (simp only [List.length_cons, List.length_nil, List.length_append, Bs_length, Is_length, Vs_length, Bl_length, Il_length] <;> omega)) only [go_sem, Nat.reduceAdd, Int.reduceAdd, Int.reduceSub, Int.reduceMul, Bool.not_true, Bool.not_false]) | (refine (WA_rb (id := 11) [25] (SubM.refl _) mixedOk ?_); simp only [List.size_toArray, List.length_cons, List.length_nil]; (repeat (first | ((first | (refine And.intro ?_ ?_; focus exact PLA) | refine RB_take false [0, 1, 2, 3, 4, 5, 6, 7, 8, 10, 11, 12, 13, 14, 16, 17, 18, 19, 20] 7 (by rfl) (by kernel_rfl) (by decide) (by decide +kernel) ?_ | refine RB_take true [9, 15, 21, 22] 3 (by rfl) (by kernel_rfl) (by decide) (by decide +kernel) ?_ | refine RB_take false [23, 24] 1 (by rfl) (by kernel_rfl) (by decide) (by decide +kernel) ?_ | refine RB_exec 25 _ (by rfl) (by decide +kernel) (by decide +kernel) ?_ | refine RB_done (by decide +kernel) ?_); try simp (maxSteps := 1000000) (disch := first | omega | rfl | decide | (simp only [List.length_cons, List.length_nil, List.length_append, Bs_length, Is_length, Vs_length, Bl_length, Il_length] <;> omega)) only [go_sem, Nat.reduceAdd, Int.reduceAdd, Int.reduceSub, Int.reduceMul, Bool.not_true, Bool.not_false])))) | refine WA_seq ?_ | refine WA_block ?_ | (refine WA_skip ?_; try simp only [go_sem]) | (refine WA_ret ?_; try simp only [go_sem]) | refine WA_ct rfl ?_ | refine WA_cf rfl ?_))
      rw [show 4 * (c + 1) = 4 * c + 4 from rfl]
      (refine Drop_slots (by first | exact Nat.le_refl _ | simp) ?_; focus ((try simp only [JL_same, JL_J, JL_nil, Int.reduceAdd, Nat.sub_sub, Int.natCast_add, Int.natCast_one, Int.natCast_zero, Int.cast_ofNat_Int, Nat.add_zero, Bool.false_eq_true, if_false, if_true]); (try exact JL_refl _)))
  · (repeat (first | ((first | (refine And.intro ?_ ?_; focus exact PLA) | refine WA_seq (WA_region ?_) | refine WA_region ?_ | refine WA_exit ?_); try simp (maxSteps := 1000000) (disch := first | omega | rfl | decide | (simp only [List.length_cons, List.length_nil, List.length_append, Bs_length, Is_length, Vs_length, Bl_length, Il_length] <;> omega)) only [go_sem, Nat.reduceAdd, Int.reduceAdd, Int.reduceSub, Int.reduceMul, Bool.not_true, Bool.not_false]) | (refine (WA_rb (id := 11) [25] (SubM.refl _) mixedOk ?_); simp only [List.size_toArray, List.length_cons, List.length_nil]; (repeat (first | ((first | (refine And.intro ?_ ?_; focus exact PLA) | refine RB_take false [0, 1, 2, 3, 4, 5, 6, 7, 8, 10, 11, 12, 13, 14, 16, 17, 18, 19, 20] 7 (by rfl) (by kernel_rfl) (by decide) (by decide +kernel) ?_ | refine RB_take true [9, 15, 21, 22] 3 (by rfl) (by kernel_rfl) (by decide) (by decide +kernel) ?_ | refine RB_take false [23, 24] 1 (by rfl) (by kernel_rfl) (by decide) (by decide +kernel) ?_ | refine RB_exec 25 _ (by rfl) (by decide +kernel) (by decide +kernel) ?_ | refine RB_done (by decide +kernel) ?_); try simp (maxSteps := 1000000) (disch := first | omega | rfl | decide | (simp only [List.length_cons, List.length_nil, List.length_append, Bs_length, Is_length, Vs_length, Bl_length, Il_length] <;> omega)) only [go_sem, Nat.reduceAdd, Int.reduceAdd, Int.reduceSub, Int.reduceMul, Bool.not_true, Bool.not_false])))) | refine WA_seq ?_ | refine WA_block ?_ | (refine WA_skip ?_; try simp only [go_sem]) | (refine WA_ret ?_; try simp only [go_sem]) | refine WA_ct rfl ?_ | refine WA_cf rfl ?_))
    ((first | refine ret_nA ?_ | refine ret_sA ?_ | refine ret_fA ?_); simp (maxSteps := 1000000) (disch := first | omega | rfl | decide | (simp only [List.length_cons, List.length_nil, List.length_append, Bs_length, Is_length, Vs_length, Bl_length, Il_length] <;> omega)) only [go_sem, Nat.reduceAdd, Int.reduceAdd, Int.reduceSub, Int.reduceMul, Bool.not_true, Bool.not_false, doneF_all]; try rfl)

end Go.Proofs.Ytcfpninklbnifaa
/- MixBlock. -/
namespace Go.Proofs.Ytcfpninklbnifaa
set_option linter.unusedSimpArgs false
set_option linter.unusedVariables false
set_option maxRecDepth 20000
set_option maxHeartbeats 1000000
open Go.Abs

def zeroF : Nat → UInt8 := fun _ => 0
theorem fieldB_nat {m : Int} (hf : fieldB m.toNat = true) : ∃ n : Nat, m = n ∧ fieldB n = true ∧ 256 ≤ n ∧ n < 512 := by
  have hf' := hf
  unfold fieldB at hf
  rw [Bool.and_eq_true, Bool.and_eq_true, decide_eq_true_eq, decide_eq_true_eq] at hf
  exact ⟨m.toNat, by omega, hf', by omega, by omega⟩
end Go.Proofs.Ytcfpninklbnifaa
/- The house's box and cipher. -/
namespace Go.Proofs.Ytcfpninklbnifaa
set_option linter.unusedSimpArgs false
set_option linter.unusedVariables false
set_option maxRecDepth 20000
set_option maxHeartbeats 1000000
open Go.Abs

section
variable {P : Program} {T : TypeId}
/-- A byte shifted to the left. -/
theorem abin_shl_B (x : UInt8) (k : IntKind) {i : Nat} (hi : i ≤ 8) : abin P .shl T (B x) (.int k (i : Int)) = some (B (UInt8.ofNat (x.toNat <<< i))) := by
  show (if (i : Int) < 0 then none else some (Value.int .u8 (IntKind.u8.wrap ((x.toNat : Int) * 2 ^ (min (i : Int).toNat IntKind.u8.bits))))) = _
  rw [if_neg (by omega)]
  congr 1
  rw [show ((i : Int).toNat) = i from rfl, show IntKind.u8.bits = 8 from rfl, Nat.min_eq_left hi, pow_cast, ← Int.natCast_mul, Nat.shiftLeft_eq]
  rw [wrap_B, toB_nat]
end
def turnS (x : UInt8) (k : Nat) : UInt8 := UInt8.ofNat ((x.toNat <<< k ||| x.toNat <<< k >>> 8) &&& 255)
def turnI (x : UInt8) (k : Nat) : UInt8 := UInt8.ofNat (x.toNat <<< k) ||| UInt8.ofNat (x.toNat >>> (8 - k))
theorem turn_eq0 : ∀ n, n < 256 → turnS (UInt8.ofNat n) 0 = UInt8.ofNat n ∧ turnI (UInt8.ofNat n) 1 = turnS (UInt8.ofNat n) 1 ∧ turnI (UInt8.ofNat n) 4 = turnS (UInt8.ofNat n) 4 := by decide +kernel
theorem turn_eq (x : UInt8) : turnS x 0 = x ∧ turnI x 1 = turnS x 1 ∧ turnI x 4 = turnS x 4 := by
  have := turn_eq0 x.toNat (u8_lt x)
  simpa using this

theorem turnS_ac (x : UInt8) {k : Nat} (hk : k ≤ 8) (h : List Blk) : AC Try.prog 120 [B x, .int .i64 k] h (B (turnS x k)) h := by
  have hx := u8_lt x
  have hl : x.toNat <<< k < 65536 := by
    rw [Nat.shiftLeft_eq]
    have h2 : 2 ^ k ≤ 2 ^ 8 := Nat.pow_le_pow_right (by omega) hk
    calc x.toNat * 2 ^ k ≤ x.toNat * 2 ^ 8 := Nat.mul_le_mul_left _ h2
      _ < 65536 := by omega
  have hw := wrap_N (n := x.toNat <<< k) (by omega)
  have hr := Nat.shiftRight_le (x.toNat <<< k) 8
  have ho := bits_or_N (a := x.toNat <<< k) (b := x.toNat <<< k >>> 8) (by omega) (by omega)
  have hs := shr_64 (a := x.toNat <<< k) (i := 8) (by omega)
  have hlt : (x.toNat <<< k ||| x.toNat <<< k >>> 8) < 9223372036854775808 := Nat.or_lt_two_pow (n := 63) (by omega) (by omega)
  (refine AC_begin (fun _ _ => Try.call120 _ _) Try.func120 rfl Try.ntmps120 Try.results120 (fun hwf => ?_); simp only [List.length_cons, List.length_nil, Nat.reduceAdd, Nat.reduceSub, List.replicate, List.cons_append, List.nil_append])
  (repeat (first | ((first | (refine And.intro ?_ ?_; focus exact PLA) | refine WA_seq (WA_region ?_) | refine WA_region ?_ | refine WA_exit ?_); try simp (maxSteps := 1000000) (disch := first | omega | rfl | decide | (simp only [List.length_cons, List.length_nil, List.length_append, Bs_length, Is_length, Vs_length, Bl_length, Il_length] <;> omega)) only [go_sem, Nat.reduceAdd, Int.reduceAdd, Int.reduceSub, Int.reduceMul, Bool.not_true, Bool.not_false, hw, ho, hs]) | refine WA_seq ?_ | refine WA_block ?_ | (refine WA_skip ?_; try simp only [go_sem]) | (refine WA_ret ?_; try simp only [go_sem]) | refine WA_ct rfl ?_ | refine WA_cf rfl ?_))
  ((first | refine ret_nA ?_ | refine ret_sA ?_ | refine ret_fA ?_); simp (maxSteps := 1000000) (disch := first | omega | rfl | decide | (simp only [List.length_cons, List.length_nil, List.length_append, Bs_length, Is_length, Vs_length, Bl_length, Il_length] <;> omega)) only [go_sem, Nat.reduceAdd, Int.reduceAdd, Int.reduceSub, Int.reduceMul, Bool.not_true, Bool.not_false, turnS, hw, ho, hs]; try rfl)

theorem turnI1_ac (x : UInt8) (h : List Blk) : AC Try.prog 97 [B x, .int .i64 1] h (B (turnI x 1)) h := by
  have e1 : bits .and .u64 1 7 = 1 := rfl
  have e2 : IntKind.u64.wrap (8 - 1) = 7 := rfl
  have e3 : ∀ P T, abin P .shl T (B x) (.int .u64 1) = some (B (UInt8.ofNat (x.toNat <<< 1))) := fun P T => abin_shl_B x .u64 (i := 1) (by omega)
  have e4 : ∀ P T, abin P .shr T (B x) (.int .u64 7) = some (B (UInt8.ofNat (x.toNat >>> 7))) := fun P T => abin_shr_B x .u64 7
  (refine AC_begin (fun _ _ => Try.call97 _ _) Try.func97 rfl Try.ntmps97 Try.results97 (fun hwf => ?_); simp only [List.length_cons, List.length_nil, Nat.reduceAdd, Nat.reduceSub, List.replicate, List.cons_append, List.nil_append])
  (repeat (first | ((first | (refine And.intro ?_ ?_; focus exact PLA) | refine WA_seq (WA_region ?_) | refine WA_region ?_ | refine WA_exit ?_); try simp (maxSteps := 1000000) (disch := first | omega | rfl | decide | (simp only [List.length_cons, List.length_nil, List.length_append, Bs_length, Is_length, Vs_length, Bl_length, Il_length] <;> omega)) only [go_sem, Nat.reduceAdd, Int.reduceAdd, Int.reduceSub, Int.reduceMul, Bool.not_true, Bool.not_false, e1, e2, e3, e4]) | refine WA_seq ?_ | refine WA_block ?_ | (refine WA_skip ?_; try simp only [go_sem]) | (refine WA_ret ?_; try simp only [go_sem]) | refine WA_ct rfl ?_ | refine WA_cf rfl ?_))
  ((first | refine ret_nA ?_ | refine ret_sA ?_ | refine ret_fA ?_); simp (maxSteps := 1000000) (disch := first | omega | rfl | decide | (simp only [List.length_cons, List.length_nil, List.length_append, Bs_length, Is_length, Vs_length, Bl_length, Il_length] <;> omega)) only [go_sem, Nat.reduceAdd, Int.reduceAdd, Int.reduceSub, Int.reduceMul, Bool.not_true, Bool.not_false, turnI, e1, e2, e3, e4]; try rfl)

theorem turnI4_ac (x : UInt8) (h : List Blk) : AC Try.prog 97 [B x, .int .i64 4] h (B (turnI x 4)) h := by
  have e1 : bits .and .u64 4 7 = 4 := rfl
  have e2 : IntKind.u64.wrap (8 - 4) = 4 := rfl
  have e3 : ∀ P T, abin P .shl T (B x) (.int .u64 4) = some (B (UInt8.ofNat (x.toNat <<< 4))) := fun P T => abin_shl_B x .u64 (i := 4) (by omega)
  have e4 : ∀ P T, abin P .shr T (B x) (.int .u64 4) = some (B (UInt8.ofNat (x.toNat >>> 4))) := fun P T => abin_shr_B x .u64 4
  (refine AC_begin (fun _ _ => Try.call97 _ _) Try.func97 rfl Try.ntmps97 Try.results97 (fun hwf => ?_); simp only [List.length_cons, List.length_nil, Nat.reduceAdd, Nat.reduceSub, List.replicate, List.cons_append, List.nil_append])
  (repeat (first | ((first | (refine And.intro ?_ ?_; focus exact PLA) | refine WA_seq (WA_region ?_) | refine WA_region ?_ | refine WA_exit ?_); try simp (maxSteps := 1000000) (disch := first | omega | rfl | decide | (simp only [List.length_cons, List.length_nil, List.length_append, Bs_length, Is_length, Vs_length, Bl_length, Il_length] <;> omega)) only [go_sem, Nat.reduceAdd, Int.reduceAdd, Int.reduceSub, Int.reduceMul, Bool.not_true, Bool.not_false, e1, e2, e3, e4]) | refine WA_seq ?_ | refine WA_block ?_ | (refine WA_skip ?_; try simp only [go_sem]) | (refine WA_ret ?_; try simp only [go_sem]) | refine WA_ct rfl ?_ | refine WA_cf rfl ?_))
  ((first | refine ret_nA ?_ | refine ret_sA ?_ | refine ret_fA ?_); simp (maxSteps := 1000000) (disch := first | omega | rfl | decide | (simp only [List.length_cons, List.length_nil, List.length_append, Bs_length, Is_length, Vs_length, Bl_length, Il_length] <;> omega)) only [go_sem, Nat.reduceAdd, Int.reduceAdd, Int.reduceSub, Int.reduceMul, Bool.not_true, Bool.not_false, turnI, e1, e2, e3, e4]; try rfl)

/-- The box of a power. -/
def powF (m e : Nat) : Nat → UInt8 := fun i => po m (UInt8.ofNat i) e
theorem powS_ac {m : Nat} (h0 : 256 ≤ m) (h1 : m < 512) {e : Nat} (he : e < 9223372036854775808) (h : List Blk) : AC Try.prog 99 [.int .i64 m, .int .i64 e] h (.agg (Bs 256 (powF m e)).toArray) h := by
  (refine AC_begin (fun _ _ => Try.call99 _ _) Try.func99 rfl Try.ntmps99 Try.results99 (fun hwf => ?_); simp only [List.length_cons, List.length_nil, Nat.reduceAdd, Nat.reduceSub, List.replicate, List.cons_append, List.nil_append])
  (repeat (first | ((first | (refine And.intro ?_ ?_; focus exact PLA) | refine WA_seq (WA_region ?_) | refine WA_region ?_ | refine WA_exit ?_); try simp (maxSteps := 1000000) (disch := first | omega | rfl | decide | (simp only [List.length_cons, List.length_nil, List.length_append, Bs_length, Is_length, Vs_length, Bl_length, Il_length] <;> omega)) only [go_sem, Nat.reduceAdd, Int.reduceAdd, Int.reduceSub, Int.reduceMul, Bool.not_true, Bool.not_false]) | refine WA_seq ?_ | refine WA_block ?_ | (refine WA_skip ?_; try simp only [go_sem]) | (refine WA_ret ?_; try simp only [go_sem]) | refine WA_ct rfl ?_ | refine WA_cf rfl ?_))
  refine WA_forP (fun k => [(6, .int .i64 k), (7, J), (8, J), (9, J), (11, J), (12, J), (13, J), (14, J), (15, J), (16, J), (17, J), (18, J), (19, J), (20, J), (21, J), (22, J), (23, J), (24, J), (25, J), (26, J), (27, J), (28, J), (29, J), (30, J), (31, J), (32, J), (33, J), (34, J), (35, J)]) (fun k => [(1, ⟨Bs 256 (pre k (powF m e) fun _ => 0), true⟩)]) (256) ?_ ?_ ?_ <;> (try simp only [patT_cons, patT_nil, patL_cons, patL_nil, list_set_zero, list_set_succ, blk_set_zero, blk_set_succ])
  · rw [pre_zero]
    (refine Drop_slots (by first | exact Nat.le_refl _ | simp) ?_; focus ((try simp only [JL_same, JL_J, JL_nil, Int.reduceAdd, Nat.sub_sub, Int.natCast_add, Int.natCast_one, Int.natCast_zero, Int.cast_ofNat_Int, Nat.add_zero, Bool.false_eq_true, if_false, if_true]); (try exact JL_refl _)))
  · intro i hi
    (repeat (first | ((first | (refine And.intro ?_ ?_; focus exact PLA) | refine WA_seq (WA_region ?_) | refine WA_region ?_ | refine WA_exit ?_); try simp (maxSteps := 1000000) (disch := first | omega | rfl | decide | (simp only [List.length_cons, List.length_nil, List.length_append, Bs_length, Is_length, Vs_length, Bl_length, Il_length] <;> omega)) only [go_sem, Nat.reduceAdd, Int.reduceAdd, Int.reduceSub, Int.reduceMul, Bool.not_true, Bool.not_false]) | refine WA_seq ?_ | refine WA_block ?_ | (refine WA_skip ?_; try simp only [go_sem]) | (refine WA_ret ?_; try simp only [go_sem]) | refine WA_ct rfl ?_ | refine WA_cf rfl ?_))
    refine WA_forP (fun k => [(7, B (poP m (UInt8.ofNat i) e k)), (8, B (sqP m (UInt8.ofNat i) k)), (9, .int .i64 ((e >>> k : Nat))), (18, J), (19, J), (20, J), (21, J), (22, J), (23, J), (24, J), (25, J), (26, J), (27, J), (28, J), (29, J), (30, J), (31, J), (32, J)]) (fun k => []) (blen e) ?_ ?_ ?_ <;> (try simp only [patT_cons, patT_nil, patL_cons, patL_nil, list_set_zero, list_set_succ, blk_set_zero, blk_set_succ])
    · (refine Drop_slots (by first | exact Nat.le_refl _ | simp) ?_; focus ((try simp only [JL_same, JL_J, JL_nil, Int.reduceAdd, Nat.sub_sub, Int.natCast_add, Int.natCast_one, Int.natCast_zero, Int.cast_ofNat_Int, Nat.add_zero, Bool.false_eq_true, if_false, if_true, sqP, poP, Nat.shiftRight_zero]); (try exact JL_refl _)))
    · intro k hk
      have hp := blen_pos hk
      have hs := Nat.shiftRight_le e k
      have hw := wrap_N (n := e >>> (k+1)) (Nat.lt_of_le_of_lt (Nat.shiftRight_le e (k + 1)) he)
      cases hb : e.testBit k
      · (repeat (first | ((first | (refine And.intro ?_ ?_; focus exact PLA) | ((first | with_reducible apply callB_i | with_reducible apply callK_intro | with_reducible apply callQ_i); (focus (first | assumption | (with_reducible apply tmS_ac h0 h1 <;> (first | assumption | rfl | (simp (disch := omega) only [go_sem]; first | done | rfl) | omega | decide | (simp; done))))); (try exact WP_au)) | refine WA_seq (WA_region ?_) | refine WA_region ?_ | refine WA_exit ?_); try simp (maxSteps := 1000000) (disch := first | omega | rfl | decide | (simp only [List.length_cons, List.length_nil, List.length_append, Bs_length, Is_length, Vs_length, Bl_length, Il_length] <;> omega)) only [go_sem, Nat.reduceAdd, Int.reduceAdd, Int.reduceSub, Int.reduceMul, Bool.not_true, Bool.not_false, hb, hw]) | refine WA_seq ?_ | refine WA_block ?_ | (refine WA_skip ?_; try simp only [go_sem]) | (refine WA_ret ?_; try simp only [go_sem]) | refine WA_ct rfl ?_ | refine WA_cf rfl ?_))
        (refine Drop_slots (by first | exact Nat.le_refl _ | simp) ?_; focus ((try simp only [JL_same, JL_J, JL_nil, Int.reduceAdd, Nat.sub_sub, Int.natCast_add, Int.natCast_one, Int.natCast_zero, Int.cast_ofNat_Int, Nat.add_zero, Bool.false_eq_true, if_false, if_true, poP_f hb, sqP]); (try exact JL_refl _)))
      · (repeat (first | ((first | (refine And.intro ?_ ?_; focus exact PLA) | ((first | with_reducible apply callB_i | with_reducible apply callK_intro | with_reducible apply callQ_i); (focus (first | assumption | (with_reducible apply tmS_ac h0 h1 <;> (first | assumption | rfl | (simp (disch := omega) only [go_sem]; first | done | rfl) | omega | decide | (simp; done))))); (try exact WP_au)) | refine WA_seq (WA_region ?_) | refine WA_region ?_ | refine WA_exit ?_); try simp (maxSteps := 1000000) (disch := first | omega | rfl | decide | (simp only [List.length_cons, List.length_nil, List.length_append, Bs_length, Is_length, Vs_length, Bl_length, Il_length] <;> omega)) only [go_sem, Nat.reduceAdd, Int.reduceAdd, Int.reduceSub, Int.reduceMul, Bool.not_true, Bool.not_false, hb, hw]) | refine WA_seq ?_ | refine WA_block ?_ | (refine WA_skip ?_; try simp only [go_sem]) | (refine WA_ret ?_; try simp only [go_sem]) | refine WA_ct rfl ?_ | refine WA_cf rfl ?_))
        (refine Drop_slots (by first | exact Nat.le_refl _ | simp) ?_; focus ((try simp only [JL_same, JL_J, JL_nil, Int.reduceAdd, Nat.sub_sub, Int.natCast_add, Int.natCast_one, Int.natCast_zero, Int.cast_ofNat_Int, Nat.add_zero, Bool.false_eq_true, if_false, if_true, poP_t hb, sqP]); (try exact JL_refl _)))
    · (repeat (first | ((first | (refine And.intro ?_ ?_; focus exact PLA) | refine WA_seq (WA_region ?_) | refine WA_region ?_ | refine WA_exit ?_); try simp (maxSteps := 1000000) (disch := first | omega | rfl | decide | (simp only [List.length_cons, List.length_nil, List.length_append, Bs_length, Is_length, Vs_length, Bl_length, Il_length] <;> omega)) only [go_sem, Nat.reduceAdd, Int.reduceAdd, Int.reduceSub, Int.reduceMul, Bool.not_true, Bool.not_false, blen_done, upd_pre, show poP m (UInt8.ofNat i) e (blen e) = powF m e i from rfl]) | refine WA_seq ?_ | refine WA_block ?_ | (refine WA_skip ?_; try simp only [go_sem]) | (refine WA_ret ?_; try simp only [go_sem]) | refine WA_ct rfl ?_ | refine WA_cf rfl ?_))
      (refine Drop_slots (by first | exact Nat.le_refl _ | simp) ?_; focus ((try simp only [JL_same, JL_J, JL_nil, Int.reduceAdd, Nat.sub_sub, Int.natCast_add, Int.natCast_one, Int.natCast_zero, Int.cast_ofNat_Int, Nat.add_zero, Bool.false_eq_true, if_false, if_true]); (try exact JL_refl _)))
  · (repeat (first | ((first | (refine And.intro ?_ ?_; focus exact PLA) | refine WA_seq (WA_region ?_) | refine WA_region ?_ | refine WA_exit ?_); try simp (maxSteps := 1000000) (disch := first | omega | rfl | decide | (simp only [List.length_cons, List.length_nil, List.length_append, Bs_length, Is_length, Vs_length, Bl_length, Il_length] <;> omega)) only [go_sem, Nat.reduceAdd, Int.reduceAdd, Int.reduceSub, Int.reduceMul, Bool.not_true, Bool.not_false]) | refine WA_seq ?_ | refine WA_block ?_ | (refine WA_skip ?_; try simp only [go_sem]) | (refine WA_ret ?_; try simp only [go_sem]) | refine WA_ct rfl ?_ | refine WA_cf rfl ?_))
    ((first | refine ret_nA ?_ | refine ret_sA ?_ | refine ret_fA ?_); simp (maxSteps := 1000000) (disch := first | omega | rfl | decide | (simp only [List.length_cons, List.length_nil, List.length_append, Bs_length, Is_length, Vs_length, Bl_length, Il_length] <;> omega)) only [go_sem, Nat.reduceAdd, Int.reduceAdd, Int.reduceSub, Int.reduceMul, Bool.not_true, Bool.not_false, Bs_pre]; try rfl)

def rotP (x c : UInt8) : Nat → UInt8
  | 0 => c
  | k + 1 => rotP x c k ^^^ turnS x ([0, 1, 4].getD k 0)
def rotF (c : UInt8) : Nat → UInt8 := fun i => rotP (UInt8.ofNat i) c 3
theorem rotS_ac {h : List Blk} {b : Nat} {r : Bool} (hb : h[b]? = some ⟨[.int .i64 0, .int .i64 1, .int .i64 4], r⟩) (c : UInt8) : AC Try.prog 100 [sl b 0 3 1, B c] h (.agg (Bs 256 (rotF c)).toArray) h := by
  have hbl := blt hb
  have ht0 : ∀ x h, AC Try.prog 120 [B x, .int .i64 0] h (B (turnS x 0)) h := fun x h => turnS_ac x (k := 0) (by omega) h
  have ht1 : ∀ x h, AC Try.prog 120 [B x, .int .i64 1] h (B (turnS x 1)) h := fun x h => turnS_ac x (k := 1) (by omega) h
  have ht4 : ∀ x h, AC Try.prog 120 [B x, .int .i64 4] h (B (turnS x 4)) h := fun x h => turnS_ac x (k := 4) (by omega) h
  (refine AC_begin (fun _ _ => Try.call100 _ _) Try.func100 rfl Try.ntmps100 Try.results100 (fun hwf => ?_); simp only [List.length_cons, List.length_nil, Nat.reduceAdd, Nat.reduceSub, List.replicate, List.cons_append, List.nil_append])
  (repeat (first | ((first | (refine And.intro ?_ ?_; focus exact PLA) | refine WA_seq (WA_region ?_) | refine WA_region ?_ | refine WA_exit ?_); try simp (maxSteps := 1000000) (disch := first | omega | rfl | decide | (simp only [List.length_cons, List.length_nil, List.length_append, Bs_length, Is_length, Vs_length, Bl_length, Il_length] <;> omega)) only [go_sem, Nat.reduceAdd, Int.reduceAdd, Int.reduceSub, Int.reduceMul, Bool.not_true, Bool.not_false]) | refine WA_seq ?_ | refine WA_block ?_ | (refine WA_skip ?_; try simp only [go_sem]) | (refine WA_ret ?_; try simp only [go_sem]) | refine WA_ct rfl ?_ | refine WA_cf rfl ?_))
  refine WA_forP (fun k => [(6, .int .i64 k), (7, J), (8, J), (10, J), (11, J), (12, J), (13, J), (14, J), (15, J), (16, J), (17, J), (18, J), (19, J), (20, J), (21, J), (22, J), (23, J), (24, J), (25, J), (26, J), (27, J), (28, J), (29, J), (30, J), (31, J), (32, J)]) (fun k => [(1, ⟨Bs 256 (pre k (rotF c) fun _ => 0), true⟩)]) (256) ?_ ?_ ?_ <;> (try simp only [patT_cons, patT_nil, patL_cons, patL_nil, list_set_zero, list_set_succ, blk_set_zero, blk_set_succ])
  · rw [pre_zero]
    (refine Drop_slots (by first | exact Nat.le_refl _ | simp) ?_; focus ((try simp only [JL_same, JL_J, JL_nil, Int.reduceAdd, Nat.sub_sub, Int.natCast_add, Int.natCast_one, Int.natCast_zero, Int.cast_ofNat_Int, Nat.add_zero, Bool.false_eq_true, if_false, if_true]); (try exact JL_refl _)))
  · intro i hi
    (repeat (first | ((first | (refine And.intro ?_ ?_; focus exact PLA) | refine WA_seq (WA_region ?_) | refine WA_region ?_ | refine WA_exit ?_); try simp (maxSteps := 1000000) (disch := first | omega | rfl | decide | (simp only [List.length_cons, List.length_nil, List.length_append, Bs_length, Is_length, Vs_length, Bl_length, Il_length] <;> omega)) only [go_sem, Nat.reduceAdd, Int.reduceAdd, Int.reduceSub, Int.reduceMul, Bool.not_true, Bool.not_false]) | refine WA_seq ?_ | refine WA_block ?_ | (refine WA_skip ?_; try simp only [go_sem]) | (refine WA_ret ?_; try simp only [go_sem]) | refine WA_ct rfl ?_ | refine WA_cf rfl ?_))
    refine WA_forP (fun k => [(7, B (rotP (UInt8.ofNat i) c k)), (8, .int .i64 k), (15, J), (16, J), (17, J), (18, J), (19, J), (20, J), (21, J), (22, J), (23, J), (24, J), (25, J), (26, J), (27, J), (28, J), (29, J)]) (fun k => []) (3) ?_ ?_ ?_ <;> (try simp only [patT_cons, patT_nil, patL_cons, patL_nil, list_set_zero, list_set_succ, blk_set_zero, blk_set_succ])
    · (refine Drop_slots (by first | exact Nat.le_refl _ | simp) ?_; focus ((try simp only [JL_same, JL_J, JL_nil, Int.reduceAdd, Nat.sub_sub, Int.natCast_add, Int.natCast_one, Int.natCast_zero, Int.cast_ofNat_Int, Nat.add_zero, Bool.false_eq_true, if_false, if_true, rotP]); (try exact JL_refl _)))
    · intro k hk
      rcases (show k = 0 ∨ k = 1 ∨ k = 2 by omega) with rfl | rfl | rfl
      · (repeat (first | ((first | (refine And.intro ?_ ?_; focus exact PLA) | ((first | with_reducible apply callB_i | with_reducible apply callK_intro | with_reducible apply callQ_i); (focus (first | assumption | (with_reducible apply ht0 <;> (first | assumption | rfl | (simp (disch := omega) only [go_sem]; first | done | rfl) | omega | decide | (simp; done))))); (try exact WP_au)) | refine WA_seq (WA_region ?_) | refine WA_region ?_ | refine WA_exit ?_); try simp (maxSteps := 1000000) (disch := first | omega | rfl | decide | (simp only [List.length_cons, List.length_nil, List.length_append, Bs_length, Is_length, Vs_length, Bl_length, Il_length] <;> omega)) only [go_sem, Nat.reduceAdd, Int.reduceAdd, Int.reduceSub, Int.reduceMul, Bool.not_true, Bool.not_false, look_old hb]) | refine WA_seq ?_ | refine WA_block ?_ | (refine WA_skip ?_; try simp only [go_sem]) | (refine WA_ret ?_; try simp only [go_sem]) | refine WA_ct rfl ?_ | refine WA_cf rfl ?_))
        (refine Drop_slots (by first | exact Nat.le_refl _ | simp) ?_; focus ((try simp only [JL_same, JL_J, JL_nil, Int.reduceAdd, Nat.sub_sub, Int.natCast_add, Int.natCast_one, Int.natCast_zero, Int.cast_ofNat_Int, Nat.add_zero, Bool.false_eq_true, if_false, if_true, rotP, List.getD_cons_zero, List.getD_cons_succ]); (try exact JL_refl _)))
      · (repeat (first | ((first | (refine And.intro ?_ ?_; focus exact PLA) | ((first | with_reducible apply callB_i | with_reducible apply callK_intro | with_reducible apply callQ_i); (focus (first | assumption | (with_reducible apply ht1 <;> (first | assumption | rfl | (simp (disch := omega) only [go_sem]; first | done | rfl) | omega | decide | (simp; done))))); (try exact WP_au)) | refine WA_seq (WA_region ?_) | refine WA_region ?_ | refine WA_exit ?_); try simp (maxSteps := 1000000) (disch := first | omega | rfl | decide | (simp only [List.length_cons, List.length_nil, List.length_append, Bs_length, Is_length, Vs_length, Bl_length, Il_length] <;> omega)) only [go_sem, Nat.reduceAdd, Int.reduceAdd, Int.reduceSub, Int.reduceMul, Bool.not_true, Bool.not_false, look_old hb]) | refine WA_seq ?_ | refine WA_block ?_ | (refine WA_skip ?_; try simp only [go_sem]) | (refine WA_ret ?_; try simp only [go_sem]) | refine WA_ct rfl ?_ | refine WA_cf rfl ?_))
        (refine Drop_slots (by first | exact Nat.le_refl _ | simp) ?_; focus ((try simp only [JL_same, JL_J, JL_nil, Int.reduceAdd, Nat.sub_sub, Int.natCast_add, Int.natCast_one, Int.natCast_zero, Int.cast_ofNat_Int, Nat.add_zero, Bool.false_eq_true, if_false, if_true, rotP, List.getD_cons_zero, List.getD_cons_succ]); (try exact JL_refl _)))
      · (repeat (first | ((first | (refine And.intro ?_ ?_; focus exact PLA) | ((first | with_reducible apply callB_i | with_reducible apply callK_intro | with_reducible apply callQ_i); (focus (first | assumption | (with_reducible apply ht4 <;> (first | assumption | rfl | (simp (disch := omega) only [go_sem]; first | done | rfl) | omega | decide | (simp; done))))); (try exact WP_au)) | refine WA_seq (WA_region ?_) | refine WA_region ?_ | refine WA_exit ?_); try simp (maxSteps := 1000000) (disch := first | omega | rfl | decide | (simp only [List.length_cons, List.length_nil, List.length_append, Bs_length, Is_length, Vs_length, Bl_length, Il_length] <;> omega)) only [go_sem, Nat.reduceAdd, Int.reduceAdd, Int.reduceSub, Int.reduceMul, Bool.not_true, Bool.not_false, look_old hb]) | refine WA_seq ?_ | refine WA_block ?_ | (refine WA_skip ?_; try simp only [go_sem]) | (refine WA_ret ?_; try simp only [go_sem]) | refine WA_ct rfl ?_ | refine WA_cf rfl ?_))
        (refine Drop_slots (by first | exact Nat.le_refl _ | simp) ?_; focus ((try simp only [JL_same, JL_J, JL_nil, Int.reduceAdd, Nat.sub_sub, Int.natCast_add, Int.natCast_one, Int.natCast_zero, Int.cast_ofNat_Int, Nat.add_zero, Bool.false_eq_true, if_false, if_true, rotP, List.getD_cons_zero, List.getD_cons_succ]); (try exact JL_refl _)))
    · (repeat (first | ((first | (refine And.intro ?_ ?_; focus exact PLA) | refine WA_seq (WA_region ?_) | refine WA_region ?_ | refine WA_exit ?_); try simp (maxSteps := 1000000) (disch := first | omega | rfl | decide | (simp only [List.length_cons, List.length_nil, List.length_append, Bs_length, Is_length, Vs_length, Bl_length, Il_length] <;> omega)) only [go_sem, Nat.reduceAdd, Int.reduceAdd, Int.reduceSub, Int.reduceMul, Bool.not_true, Bool.not_false, upd_pre, show rotP (UInt8.ofNat i) c 3 = rotF c i from rfl]) | refine WA_seq ?_ | refine WA_block ?_ | (refine WA_skip ?_; try simp only [go_sem]) | (refine WA_ret ?_; try simp only [go_sem]) | refine WA_ct rfl ?_ | refine WA_cf rfl ?_))
      (refine Drop_slots (by first | exact Nat.le_refl _ | simp) ?_; focus ((try simp only [JL_same, JL_J, JL_nil, Int.reduceAdd, Nat.sub_sub, Int.natCast_add, Int.natCast_one, Int.natCast_zero, Int.cast_ofNat_Int, Nat.add_zero, Bool.false_eq_true, if_false, if_true]); (try exact JL_refl _)))
  · (repeat (first | ((first | (refine And.intro ?_ ?_; focus exact PLA) | refine WA_seq (WA_region ?_) | refine WA_region ?_ | refine WA_exit ?_); try simp (maxSteps := 1000000) (disch := first | omega | rfl | decide | (simp only [List.length_cons, List.length_nil, List.length_append, Bs_length, Is_length, Vs_length, Bl_length, Il_length] <;> omega)) only [go_sem, Nat.reduceAdd, Int.reduceAdd, Int.reduceSub, Int.reduceMul, Bool.not_true, Bool.not_false]) | refine WA_seq ?_ | refine WA_block ?_ | (refine WA_skip ?_; try simp only [go_sem]) | (refine WA_ret ?_; try simp only [go_sem]) | refine WA_ct rfl ?_ | refine WA_cf rfl ?_))
    ((first | refine ret_nA ?_ | refine ret_sA ?_ | refine ret_fA ?_); simp (maxSteps := 1000000) (disch := first | omega | rfl | decide | (simp only [List.length_cons, List.length_nil, List.length_append, Bs_length, Is_length, Vs_length, Bl_length, Il_length] <;> omega)) only [go_sem, Nat.reduceAdd, Int.reduceAdd, Int.reduceSub, Int.reduceMul, Bool.not_true, Bool.not_false, Bs_pre]; try rfl)

def thenF (p q : Nat → UInt8) : Nat → UInt8 := fun i => q (p i).toNat
theorem thenS_ac (p q : Nat → UInt8) (h : List Blk) : AC Try.prog 98 [.agg (Bs 256 p).toArray, .agg (Bs 256 q).toArray] h (.agg (Bs 256 (thenF p q)).toArray) h := by
  (refine AC_begin (fun _ _ => Try.call98 _ _) Try.func98 rfl Try.ntmps98 Try.results98 (fun hwf => ?_); simp only [List.length_cons, List.length_nil, Nat.reduceAdd, Nat.reduceSub, List.replicate, List.cons_append, List.nil_append])
  (repeat (first | ((first | (refine And.intro ?_ ?_; focus exact PLA) | refine WA_seq (WA_region ?_) | refine WA_region ?_ | refine WA_exit ?_); try simp (maxSteps := 1000000) (disch := first | omega | rfl | decide | (simp only [List.length_cons, List.length_nil, List.length_append, Bs_length, Is_length, Vs_length, Bl_length, Il_length] <;> omega)) only [go_sem, Nat.reduceAdd, Int.reduceAdd, Int.reduceSub, Int.reduceMul, Bool.not_true, Bool.not_false]) | refine WA_seq ?_ | refine WA_block ?_ | (refine WA_skip ?_; try simp only [go_sem]) | (refine WA_ret ?_; try simp only [go_sem]) | refine WA_ct rfl ?_ | refine WA_cf rfl ?_))
  refine WA_forP (fun k => [(6, .int .i64 k), (8, J), (9, J), (10, J), (11, J), (12, J), (13, J), (14, J), (15, J), (16, J), (17, J), (18, J)]) (fun k => [(3, ⟨Bs 256 (pre k (thenF p q) fun _ => 0), true⟩)]) (256) ?_ ?_ ?_ <;> (try simp only [patT_cons, patT_nil, patL_cons, patL_nil, list_set_zero, list_set_succ, blk_set_zero, blk_set_succ])
  · rw [pre_zero]
    (refine Drop_slots (by first | exact Nat.le_refl _ | simp) ?_; focus ((try simp only [JL_same, JL_J, JL_nil, Int.reduceAdd, Nat.sub_sub, Int.natCast_add, Int.natCast_one, Int.natCast_zero, Int.cast_ofNat_Int, Nat.add_zero, Bool.false_eq_true, if_false, if_true]); (try exact JL_refl _)))
  · intro i hi
    have hp := u8_lt (p i)
    (repeat (first | ((first | (refine And.intro ?_ ?_; focus exact PLA) | refine WA_seq (WA_region ?_) | refine WA_region ?_ | refine WA_exit ?_); try simp (maxSteps := 1000000) (disch := first | omega | rfl | decide | (simp only [List.length_cons, List.length_nil, List.length_append, Bs_length, Is_length, Vs_length, Bl_length, Il_length] <;> omega)) only [go_sem, Nat.reduceAdd, Int.reduceAdd, Int.reduceSub, Int.reduceMul, Bool.not_true, Bool.not_false, upd_pre, show q (p i).toNat = thenF p q i from rfl]) | refine WA_seq ?_ | refine WA_block ?_ | (refine WA_skip ?_; try simp only [go_sem]) | (refine WA_ret ?_; try simp only [go_sem]) | refine WA_ct rfl ?_ | refine WA_cf rfl ?_))
    (refine Drop_slots (by first | exact Nat.le_refl _ | simp) ?_; focus ((try simp only [JL_same, JL_J, JL_nil, Int.reduceAdd, Nat.sub_sub, Int.natCast_add, Int.natCast_one, Int.natCast_zero, Int.cast_ofNat_Int, Nat.add_zero, Bool.false_eq_true, if_false, if_true]); (try exact JL_refl _)))
  · (repeat (first | ((first | (refine And.intro ?_ ?_; focus exact PLA) | refine WA_seq (WA_region ?_) | refine WA_region ?_ | refine WA_exit ?_); try simp (maxSteps := 1000000) (disch := first | omega | rfl | decide | (simp only [List.length_cons, List.length_nil, List.length_append, Bs_length, Is_length, Vs_length, Bl_length, Il_length] <;> omega)) only [go_sem, Nat.reduceAdd, Int.reduceAdd, Int.reduceSub, Int.reduceMul, Bool.not_true, Bool.not_false]) | refine WA_seq ?_ | refine WA_block ?_ | (refine WA_skip ?_; try simp only [go_sem]) | (refine WA_ret ?_; try simp only [go_sem]) | refine WA_ct rfl ?_ | refine WA_cf rfl ?_))
    ((first | refine ret_nA ?_ | refine ret_sA ?_ | refine ret_fA ?_); simp (maxSteps := 1000000) (disch := first | omega | rfl | decide | (simp only [List.length_cons, List.length_nil, List.length_append, Bs_length, Is_length, Vs_length, Bl_length, Il_length] <;> omega)) only [go_sem, Nat.reduceAdd, Int.reduceAdd, Int.reduceSub, Int.reduceMul, Bool.not_true, Bool.not_false, Bs_pre]; try rfl)

def hBoxF : Nat → UInt8 := thenF (powF 285 254) (rotF 90)
def hBoxI (i : Nat) : UInt8 := inv 285 (UInt8.ofNat i) ^^^ turnI (inv 285 (UInt8.ofNat i)) 1 ^^^ turnI (inv 285 (UInt8.ofNat i)) 4 ^^^ 90
theorem hBox_eq (i : Nat) : hBoxI i = hBoxF i := by
  unfold hBoxI hBoxF thenF powF rotF
  show _ = rotP (UInt8.ofNat (inv 285 (UInt8.ofNat i)).toNat) 90 3
  generalize inv 285 (UInt8.ofNat i) = b
  have h := turn_eq b
  rw [UInt8.ofNat_toNat, h.2.1, h.2.2]
  show _ = ((90 ^^^ turnS b 0) ^^^ turnS b 1) ^^^ turnS b 4
  rw [h.1, UInt8.xor_comm _ 90]
  simp only [UInt8.xor_assoc]
def hMixF : Nat → UInt8 := fun n => inv 285 (UInt8.ofNat ((n / 4) ^^^ (4 + n % 4)))
theorem hMix_at {i j : Nat} (hj : j < 4) : inv 285 (UInt8.ofNat (i ^^^ (4 + j))) = hMixF (i * 4 + j) := by
  unfold hMixF; rw [show (i * 4 + j) / 4 = i by omega, show (i * 4 + j) % 4 = j by omega]
def hPlF : Nat → UInt8 := fun i => UInt8.ofNat ((13 * i + 4) % 16)
def zF : Nat → UInt8 := fun _ => 0
theorem Ci_splice0 (a0 : Int) (a1 a2 a3 : Nat → UInt8) (a4 x : Int) : splice (Ci a0 a1 a2 a3 a4) 0 [.int .i64 x] = Ci x a1 a2 a3 a4 := by
  rw [Ci_cut0, mid_splice (n := 1) (by simp) (by simp) (by simp)]; rfl
theorem Ci_splice4 (a0 : Int) (a1 a2 a3 : Nat → UInt8) (a4 x : Int) : splice (Ci a0 a1 a2 a3 a4) 289 [.int .i64 x] = Ci a0 a1 a2 a3 x := by
  have h := mid_splice (A := [.int .i64 a0] ++ (Bs 256 a1 ++ (Bs 16 a2 ++ Bs 16 a3))) (s := [.int .i64 a4]) (R := []) (x := [.int .i64 x]) (o := 289) (n := 1) (by simp [Bs_length]) (by simp) (by simp)
  simpa [Ci] using h
theorem splice_all {l x : List Value} (h : l.length = x.length) : splice l 0 x = x := by
  have := mid_splice (A := []) (s := l) (R := []) (x := x) (o := 0) (n := l.length) rfl rfl h.symm
  simpa using this
theorem Ci_splice_all (a0 : Int) (a1 a2 a3 : Nat → UInt8) (a4 : Int) (b0 : Int) (b1 b2 b3 : Nat → UInt8) (b4 : Int) : splice (Ci a0 a1 a2 a3 a4) 0 (Ci b0 b1 b2 b3 b4) = Ci b0 b1 b2 b3 b4 := splice_all (by simp [Ci_length])

theorem houseS_ac (r : Int) (h : List Blk) : AC Try.prog 62 [.int .i64 r] h (.agg (Ci 285 hBoxF hMixF hPlF r).toArray) h := by
  have hp : ∀ h, AC Try.prog 99 [.int .i64 285, .int .i64 254] h (.agg (Bs 256 (powF 285 254)).toArray) h := fun h => powS_ac (m := 285) (by omega) (by omega) (e := 254) (by omega) h
  have hi : ∀ a h, AC Try.prog 101 [.int .i64 285, B a] h (B (inv 285 a)) h := fun a h => invS_ac (m := 285) (by omega) (by omega) a h
  (refine AC_begin (fun _ _ => Try.call62 _ _) Try.func62 rfl Try.ntmps62 Try.results62 (fun hwf => ?_); simp only [List.length_cons, List.length_nil, Nat.reduceAdd, Nat.reduceSub, List.replicate, List.cons_append, List.nil_append])
  (repeat (first | ((first | (refine And.intro ?_ ?_; focus exact PLA) | ((first | with_reducible apply callB_i | with_reducible apply callK_intro | with_reducible apply callQ_i); (focus (first | assumption | ((first | with_reducible apply hp | with_reducible apply rotS_ac | with_reducible apply thenS_ac) <;> (first | assumption | rfl | (simp (disch := omega) only [go_sem]; first | done | rfl) | omega | decide | (simp; done))))); (try exact WP_au)) | refine WA_seq (WA_region ?_) | refine WA_region ?_ | refine WA_exit ?_); try simp (maxSteps := 1000000) (disch := first | omega | rfl | decide | (simp only [List.length_cons, List.length_nil, List.length_append, Bs_length, Is_length, Vs_length, Bl_length, Il_length] <;> omega)) only [go_sem, Nat.reduceAdd, Int.reduceAdd, Int.reduceSub, Int.reduceMul, Bool.not_true, Bool.not_false, Ci_splice0, Ci_splice4, Ci_splice_all, Ci_splice1]) | refine WA_seq ?_ | refine WA_block ?_ | (refine WA_skip ?_; try simp only [go_sem]) | (refine WA_ret ?_; try simp only [go_sem]) | refine WA_ct rfl ?_ | refine WA_cf rfl ?_))
  refine WA_forP (fun k => [(4, .int .i64 k), (5, J), (14, J), (15, J), (16, J), (17, J), (18, J), (19, J), (20, J), (21, J), (22, J), (23, J), (24, J), (25, J), (26, J), (27, J), (28, J), (29, J), (30, J), (31, J), (32, J)]) (fun k => [(1, ⟨Ci 285 hBoxF (pre (k * 4) hMixF zF) zF r, true⟩)]) (4) ?_ ?_ ?_ <;> (try simp only [patT_cons, patT_nil, patL_cons, patL_nil, list_set_zero, list_set_succ, blk_set_zero, blk_set_succ])
  · rw [Nat.zero_mul, pre_zero]
    (refine Drop_slots (by first | exact Nat.le_refl _ | simp) ?_; focus ((try simp only [JL_same, JL_J, JL_nil, Int.reduceAdd, Nat.sub_sub, Int.natCast_add, Int.natCast_one, Int.natCast_zero, Int.cast_ofNat_Int, Nat.add_zero, Bool.false_eq_true, if_false, if_true]); (try exact JL_refl _)))
  · intro i hi4
    (repeat (first | ((first | (refine And.intro ?_ ?_; focus exact PLA) | refine WA_seq (WA_region ?_) | refine WA_region ?_ | refine WA_exit ?_); try simp (maxSteps := 1000000) (disch := first | omega | rfl | decide | (simp only [List.length_cons, List.length_nil, List.length_append, Bs_length, Is_length, Vs_length, Bl_length, Il_length] <;> omega)) only [go_sem, Nat.reduceAdd, Int.reduceAdd, Int.reduceSub, Int.reduceMul, Bool.not_true, Bool.not_false]) | refine WA_seq ?_ | refine WA_block ?_ | (refine WA_skip ?_; try simp only [go_sem]) | (refine WA_ret ?_; try simp only [go_sem]) | refine WA_ct rfl ?_ | refine WA_cf rfl ?_))
    refine WA_forP (fun k => [(5, .int .i64 k), (18, J), (19, J), (20, J), (21, J), (22, J), (23, J), (24, J), (25, J), (26, J), (27, J), (28, J), (29, J), (30, J), (31, J), (32, J)]) (fun k => [(1, ⟨Ci 285 hBoxF (pre (i * 4 + k) hMixF zF) zF r, true⟩)]) (4) ?_ ?_ ?_ <;> (try simp only [patT_cons, patT_nil, patL_cons, patL_nil, list_set_zero, list_set_succ, blk_set_zero, blk_set_succ])
    · (refine Drop_slots (by first | exact Nat.le_refl _ | simp) ?_; focus ((try simp only [JL_same, JL_J, JL_nil, Int.reduceAdd, Nat.sub_sub, Int.natCast_add, Int.natCast_one, Int.natCast_zero, Int.cast_ofNat_Int, Nat.add_zero, Bool.false_eq_true, if_false, if_true]); (try exact JL_refl _)))
    · intro j hj
      have hx := bits_xor_N (a := i) (b := 4 + j) (by omega) (by omega)
      (repeat (first | ((first | (refine And.intro ?_ ?_; focus exact PLA) | ((first | with_reducible apply callB_i | with_reducible apply callK_intro | with_reducible apply callQ_i); (focus (first | assumption | (with_reducible apply hi <;> (first | assumption | rfl | (simp (disch := omega) only [go_sem]; first | done | rfl) | omega | decide | (simp; done))))); (try exact WP_au)) | refine WA_seq (WA_region ?_) | refine WA_region ?_ | refine WA_exit ?_); try simp (maxSteps := 1000000) (disch := first | omega | rfl | decide | (simp only [List.length_cons, List.length_nil, List.length_append, Bs_length, Is_length, Vs_length, Bl_length, Il_length] <;> omega)) only [go_sem, Nat.reduceAdd, Int.reduceAdd, Int.reduceSub, Int.reduceMul, Bool.not_true, Bool.not_false, hx, hMix_at hj, upd_pre]) | (refine (WA_rb (id := 9) [11] (SubM.refl _) mixedOk ?_); simp only [List.size_toArray, List.length_cons, List.length_nil]; (repeat (first | ((first | (refine And.intro ?_ ?_; focus exact PLA) | ((first | with_reducible apply callB_i | with_reducible apply callK_intro | with_reducible apply callQ_i); (focus (first | assumption | (with_reducible apply hi <;> (first | assumption | rfl | (simp (disch := omega) only [go_sem]; first | done | rfl) | omega | decide | (simp; done))))); (try exact WP_au)) | refine RB_take false [0, 1, 2, 3, 4, 5, 6, 8, 9] 3 (by rfl) (by kernel_rfl) (by decide) (by decide +kernel) ?_ | refine RB_take true [7] 2 (by rfl) (by kernel_rfl) (by decide) (by decide +kernel) ?_ | refine RB_take false [10] 1 (by rfl) (by kernel_rfl) (by decide) (by decide +kernel) ?_ | refine RB_exec 11 _ (by rfl) (by decide +kernel) (by decide +kernel) ?_ | refine RB_done (by decide +kernel) ?_); try simp (maxSteps := 1000000) (disch := first | omega | rfl | decide | (simp only [List.length_cons, List.length_nil, List.length_append, Bs_length, Is_length, Vs_length, Bl_length, Il_length] <;> omega)) only [go_sem, Nat.reduceAdd, Int.reduceAdd, Int.reduceSub, Int.reduceMul, Bool.not_true, Bool.not_false, hx, hMix_at hj, upd_pre])))) | refine WA_seq ?_ | refine WA_block ?_ | (refine WA_skip ?_; try simp only [go_sem]) | (refine WA_ret ?_; try simp only [go_sem]) | refine WA_ct rfl ?_ | refine WA_cf rfl ?_))
      (refine Drop_slots (by first | exact Nat.le_refl _ | simp) ?_; focus ((try simp only [JL_same, JL_J, JL_nil, Int.reduceAdd, Nat.sub_sub, Int.natCast_add, Int.natCast_one, Int.natCast_zero, Int.cast_ofNat_Int, Nat.add_zero, Bool.false_eq_true, if_false, if_true]); (try exact JL_refl _)))
    · (repeat (first | ((first | (refine And.intro ?_ ?_; focus exact PLA) | refine WA_seq (WA_region ?_) | refine WA_region ?_ | refine WA_exit ?_); try simp (maxSteps := 1000000) (disch := first | omega | rfl | decide | (simp only [List.length_cons, List.length_nil, List.length_append, Bs_length, Is_length, Vs_length, Bl_length, Il_length] <;> omega)) only [go_sem, Nat.reduceAdd, Int.reduceAdd, Int.reduceSub, Int.reduceMul, Bool.not_true, Bool.not_false]) | refine WA_seq ?_ | refine WA_block ?_ | (refine WA_skip ?_; try simp only [go_sem]) | (refine WA_ret ?_; try simp only [go_sem]) | refine WA_ct rfl ?_ | refine WA_cf rfl ?_))
      rw [show (i + 1) * 4 = i * 4 + 4 by omega]
      (refine Drop_slots (by first | exact Nat.le_refl _ | simp) ?_; focus ((try simp only [JL_same, JL_J, JL_nil, Int.reduceAdd, Nat.sub_sub, Int.natCast_add, Int.natCast_one, Int.natCast_zero, Int.cast_ofNat_Int, Nat.add_zero, Bool.false_eq_true, if_false, if_true]); (try exact JL_refl _)))
  · (repeat (first | ((first | (refine And.intro ?_ ?_; focus exact PLA) | refine WA_seq (WA_region ?_) | refine WA_region ?_ | refine WA_exit ?_); try simp (maxSteps := 1000000) (disch := first | omega | rfl | decide | (simp only [List.length_cons, List.length_nil, List.length_append, Bs_length, Is_length, Vs_length, Bl_length, Il_length] <;> omega)) only [go_sem, Nat.reduceAdd, Int.reduceAdd, Int.reduceSub, Int.reduceMul, Bool.not_true, Bool.not_false]) | refine WA_seq ?_ | refine WA_block ?_ | (refine WA_skip ?_; try simp only [go_sem]) | (refine WA_ret ?_; try simp only [go_sem]) | refine WA_ct rfl ?_ | refine WA_cf rfl ?_))
    refine WA_forP (fun k => [(6, .int .i64 k), (33, J), (34, J), (35, J), (36, J), (37, J), (38, J), (39, J), (40, J), (41, J), (42, J), (43, J), (44, J)]) (fun k => [(1, ⟨Ci 285 hBoxF (pre 16 hMixF zF) (pre k hPlF zF) r, true⟩)]) (16) ?_ ?_ ?_ <;> (try simp only [patT_cons, patT_nil, patL_cons, patL_nil, list_set_zero, list_set_succ, blk_set_zero, blk_set_succ])
    · rw [pre_zero]
      (refine Drop_slots (by first | exact Nat.le_refl _ | simp) ?_; focus ((try simp only [JL_same, JL_J, JL_nil, Int.reduceAdd, Nat.sub_sub, Int.natCast_add, Int.natCast_one, Int.natCast_zero, Int.cast_ofNat_Int, Nat.add_zero, Bool.false_eq_true, if_false, if_true]); (try exact JL_refl _)))
    · intro i hi16
      (repeat (first | ((first | (refine And.intro ?_ ?_; focus exact PLA) | refine WA_seq (WA_region ?_) | refine WA_region ?_ | refine WA_exit ?_); try simp (maxSteps := 1000000) (disch := first | omega | rfl | decide | (simp only [List.length_cons, List.length_nil, List.length_append, Bs_length, Is_length, Vs_length, Bl_length, Il_length] <;> omega)) only [go_sem, Nat.reduceAdd, Int.reduceAdd, Int.reduceSub, Int.reduceMul, Bool.not_true, Bool.not_false, upd_pre, show UInt8.ofNat ((13 * i + 4) % 16) = hPlF i from rfl]) | refine WA_seq ?_ | refine WA_block ?_ | (refine WA_skip ?_; try simp only [go_sem]) | (refine WA_ret ?_; try simp only [go_sem]) | refine WA_ct rfl ?_ | refine WA_cf rfl ?_))
      (refine Drop_slots (by first | exact Nat.le_refl _ | simp) ?_; focus ((try simp only [JL_same, JL_J, JL_nil, Int.reduceAdd, Nat.sub_sub, Int.natCast_add, Int.natCast_one, Int.natCast_zero, Int.cast_ofNat_Int, Nat.add_zero, Bool.false_eq_true, if_false, if_true]); (try exact JL_refl _)))
    · (repeat (first | ((first | (refine And.intro ?_ ?_; focus exact PLA) | refine WA_seq (WA_region ?_) | refine WA_region ?_ | refine WA_exit ?_); try simp (maxSteps := 1000000) (disch := first | omega | rfl | decide | (simp only [List.length_cons, List.length_nil, List.length_append, Bs_length, Is_length, Vs_length, Bl_length, Il_length] <;> omega)) only [go_sem, Nat.reduceAdd, Int.reduceAdd, Int.reduceSub, Int.reduceMul, Bool.not_true, Bool.not_false]) | refine WA_seq ?_ | refine WA_block ?_ | (refine WA_skip ?_; try simp only [go_sem]) | (refine WA_ret ?_; try simp only [go_sem]) | refine WA_ct rfl ?_ | refine WA_cf rfl ?_))
      ((first | refine ret_nA ?_ | refine ret_sA ?_ | refine ret_fA ?_); simp (maxSteps := 1000000) (disch := first | omega | rfl | decide | (simp only [List.length_cons, List.length_nil, List.length_append, Bs_length, Is_length, Vs_length, Bl_length, Il_length] <;> omega)) only [go_sem, Nat.reduceAdd, Int.reduceAdd, Int.reduceSub, Int.reduceMul, Bool.not_true, Bool.not_false]; try rfl)

theorem houseI_ac (r : Int) (h : List Blk) : AC Try.prog 60 [.int .i64 r] h (.agg (Ci 285 hBoxF hMixF hPlF r).toArray) h := by
  have hi : ∀ a h, AC Try.prog 96 [.int .i64 285, B a] h (B (inv 285 a)) h := fun a h => invI_ac (m := 285) (by omega) (by omega) a h
  (refine AC_begin (fun _ _ => Try.call60 _ _) Try.func60 rfl Try.ntmps60 Try.results60 (fun hwf => ?_); simp only [List.length_cons, List.length_nil, Nat.reduceAdd, Nat.reduceSub, List.replicate, List.cons_append, List.nil_append])
  (repeat (first | ((first | (refine And.intro ?_ ?_; focus exact PLA) | refine WA_seq (WA_region ?_) | refine WA_region ?_ | refine WA_exit ?_); try simp (maxSteps := 1000000) (disch := first | omega | rfl | decide | (simp only [List.length_cons, List.length_nil, List.length_append, Bs_length, Is_length, Vs_length, Bl_length, Il_length] <;> omega)) only [go_sem, Nat.reduceAdd, Int.reduceAdd, Int.reduceSub, Int.reduceMul, Bool.not_true, Bool.not_false, Ci_splice0, Ci_splice4, Ci_splice_all, Ci_splice1]) | refine WA_seq ?_ | refine WA_block ?_ | (refine WA_skip ?_; try simp only [go_sem]) | (refine WA_ret ?_; try simp only [go_sem]) | refine WA_ct rfl ?_ | refine WA_cf rfl ?_))
  refine WA_forP (fun k => [(4, J), (5, J), (11, .int .i64 k), (12, J), (13, J), (14, J), (15, J), (16, J), (17, J), (18, J), (19, J), (20, J), (21, J), (22, J), (23, J), (24, J), (25, J), (26, J), (27, J), (28, J)]) (fun k => [(1, ⟨Ci 285 (pre k hBoxF zF) zF zF r, true⟩)]) (256) ?_ ?_ ?_ <;> (try simp only [patT_cons, patT_nil, patL_cons, patL_nil, list_set_zero, list_set_succ, blk_set_zero, blk_set_succ])
  · rw [pre_zero]
    (refine Drop_slots (by first | exact Nat.le_refl _ | simp) ?_; focus ((try simp only [JL_same, JL_J, JL_nil, Int.reduceAdd, Nat.sub_sub, Int.natCast_add, Int.natCast_one, Int.natCast_zero, Int.cast_ofNat_Int, Nat.add_zero, Bool.false_eq_true, if_false, if_true]); (try exact JL_refl _)))
  · intro i hi256
    (repeat (first | ((first | (refine And.intro ?_ ?_; focus exact PLA) | ((first | with_reducible apply callB_i | with_reducible apply callK_intro | with_reducible apply callQ_i); (focus (first | assumption | ((first | with_reducible apply hi | with_reducible apply turnI1_ac | with_reducible apply turnI4_ac) <;> (first | assumption | rfl | (simp (disch := omega) only [go_sem]; first | done | rfl) | omega | decide | (simp; done))))); (try exact WP_au)) | refine WA_seq (WA_region ?_) | refine WA_region ?_ | refine WA_exit ?_); try simp (maxSteps := 1000000) (disch := first | omega | rfl | decide | (simp only [List.length_cons, List.length_nil, List.length_append, Bs_length, Is_length, Vs_length, Bl_length, Il_length] <;> omega)) only [go_sem, Nat.reduceAdd, Int.reduceAdd, Int.reduceSub, Int.reduceMul, Bool.not_true, Bool.not_false, upd_pre, show inv 285 (UInt8.ofNat i) ^^^ turnI (inv 285 (UInt8.ofNat i)) 1 ^^^ turnI (inv 285 (UInt8.ofNat i)) 4 ^^^ 90 = hBoxF i from hBox_eq i]) | refine WA_seq ?_ | refine WA_block ?_ | (refine WA_skip ?_; try simp only [go_sem]) | (refine WA_ret ?_; try simp only [go_sem]) | refine WA_ct rfl ?_ | refine WA_cf rfl ?_))
    (refine Drop_slots (by first | exact Nat.le_refl _ | simp) ?_; focus ((try simp only [JL_same, JL_J, JL_nil, Int.reduceAdd, Nat.sub_sub, Int.natCast_add, Int.natCast_one, Int.natCast_zero, Int.cast_ofNat_Int, Nat.add_zero, Bool.false_eq_true, if_false, if_true]); (try exact JL_refl _)))
  · (repeat (first | ((first | (refine And.intro ?_ ?_; focus exact PLA) | refine WA_seq (WA_region ?_) | refine WA_region ?_ | refine WA_exit ?_); try simp (maxSteps := 1000000) (disch := first | omega | rfl | decide | (simp only [List.length_cons, List.length_nil, List.length_append, Bs_length, Is_length, Vs_length, Bl_length, Il_length] <;> omega)) only [go_sem, Nat.reduceAdd, Int.reduceAdd, Int.reduceSub, Int.reduceMul, Bool.not_true, Bool.not_false]) | refine WA_seq ?_ | refine WA_block ?_ | (refine WA_skip ?_; try simp only [go_sem]) | (refine WA_ret ?_; try simp only [go_sem]) | refine WA_ct rfl ?_ | refine WA_cf rfl ?_))
    refine WA_forP (fun k => [(6, J), (7, J), (29, .int .i64 k), (30, J), (31, J), (32, J), (33, J), (34, J), (35, J), (36, J), (37, J), (38, J), (39, J), (40, J), (41, J), (42, J), (43, J), (44, J), (45, J), (46, J), (47, J)]) (fun k => [(1, ⟨Ci 285 hBoxF (pre (k * 4) hMixF zF) zF r, true⟩)]) (4) ?_ ?_ ?_ <;> (try simp only [patT_cons, patT_nil, patL_cons, patL_nil, list_set_zero, list_set_succ, blk_set_zero, blk_set_succ])
    · rw [Nat.zero_mul, pre_zero]
      (refine Drop_slots (by first | exact Nat.le_refl _ | simp) ?_; focus ((try simp only [JL_same, JL_J, JL_nil, Int.reduceAdd, Nat.sub_sub, Int.natCast_add, Int.natCast_one, Int.natCast_zero, Int.cast_ofNat_Int, Nat.add_zero, Bool.false_eq_true, if_false, if_true]); (try exact JL_refl _)))
    · intro i hi4
      (repeat (first | ((first | (refine And.intro ?_ ?_; focus exact PLA) | refine WA_seq (WA_region ?_) | refine WA_region ?_ | refine WA_exit ?_); try simp (maxSteps := 1000000) (disch := first | omega | rfl | decide | (simp only [List.length_cons, List.length_nil, List.length_append, Bs_length, Is_length, Vs_length, Bl_length, Il_length] <;> omega)) only [go_sem, Nat.reduceAdd, Int.reduceAdd, Int.reduceSub, Int.reduceMul, Bool.not_true, Bool.not_false]) | refine WA_seq ?_ | refine WA_block ?_ | (refine WA_skip ?_; try simp only [go_sem]) | (refine WA_ret ?_; try simp only [go_sem]) | refine WA_ct rfl ?_ | refine WA_cf rfl ?_))
      refine WA_forP (fun k => [(7, J), (32, .int .i64 k), (33, J), (34, J), (35, J), (36, J), (37, J), (38, J), (39, J), (40, J), (41, J), (42, J), (43, J), (44, J), (45, J), (46, J)]) (fun k => [(1, ⟨Ci 285 hBoxF (pre (i * 4 + k) hMixF zF) zF r, true⟩)]) (4) ?_ ?_ ?_ <;> (try simp only [patT_cons, patT_nil, patL_cons, patL_nil, list_set_zero, list_set_succ, blk_set_zero, blk_set_succ])
      · (refine Drop_slots (by first | exact Nat.le_refl _ | simp) ?_; focus ((try simp only [JL_same, JL_J, JL_nil, Int.reduceAdd, Nat.sub_sub, Int.natCast_add, Int.natCast_one, Int.natCast_zero, Int.cast_ofNat_Int, Nat.add_zero, Bool.false_eq_true, if_false, if_true]); (try exact JL_refl _)))
      · intro j hj
        have hx := bits_xor_N (a := i) (b := 4 + j) (by omega) (by omega)
        (repeat (first | ((first | (refine And.intro ?_ ?_; focus exact PLA) | ((first | with_reducible apply callB_i | with_reducible apply callK_intro | with_reducible apply callQ_i); (focus (first | assumption | (with_reducible apply hi <;> (first | assumption | rfl | (simp (disch := omega) only [go_sem]; first | done | rfl) | omega | decide | (simp; done))))); (try exact WP_au)) | refine WA_seq (WA_region ?_) | refine WA_region ?_ | refine WA_exit ?_); try simp (maxSteps := 1000000) (disch := first | omega | rfl | decide | (simp only [List.length_cons, List.length_nil, List.length_append, Bs_length, Is_length, Vs_length, Bl_length, Il_length] <;> omega)) only [go_sem, Nat.reduceAdd, Int.reduceAdd, Int.reduceSub, Int.reduceMul, Bool.not_true, Bool.not_false, hx, hMix_at hj, upd_pre]) | (refine (WA_rb (id := 14) [11] (SubM.refl _) mixedOk ?_); simp only [List.size_toArray, List.length_cons, List.length_nil]; (repeat (first | ((first | (refine And.intro ?_ ?_; focus exact PLA) | ((first | with_reducible apply callB_i | with_reducible apply callK_intro | with_reducible apply callQ_i); (focus (first | assumption | (with_reducible apply hi <;> (first | assumption | rfl | (simp (disch := omega) only [go_sem]; first | done | rfl) | omega | decide | (simp; done))))); (try exact WP_au)) | refine RB_take false [0, 1, 2, 3, 4, 5, 6, 8, 9] 3 (by rfl) (by kernel_rfl) (by decide) (by decide +kernel) ?_ | refine RB_take true [7] 2 (by rfl) (by kernel_rfl) (by decide) (by decide +kernel) ?_ | refine RB_take false [10] 1 (by rfl) (by kernel_rfl) (by decide) (by decide +kernel) ?_ | refine RB_exec 11 _ (by rfl) (by decide +kernel) (by decide +kernel) ?_ | refine RB_done (by decide +kernel) ?_); try simp (maxSteps := 1000000) (disch := first | omega | rfl | decide | (simp only [List.length_cons, List.length_nil, List.length_append, Bs_length, Is_length, Vs_length, Bl_length, Il_length] <;> omega)) only [go_sem, Nat.reduceAdd, Int.reduceAdd, Int.reduceSub, Int.reduceMul, Bool.not_true, Bool.not_false, hx, hMix_at hj, upd_pre])))) | refine WA_seq ?_ | refine WA_block ?_ | (refine WA_skip ?_; try simp only [go_sem]) | (refine WA_ret ?_; try simp only [go_sem]) | refine WA_ct rfl ?_ | refine WA_cf rfl ?_))
        (refine Drop_slots (by first | exact Nat.le_refl _ | simp) ?_; focus ((try simp only [JL_same, JL_J, JL_nil, Int.reduceAdd, Nat.sub_sub, Int.natCast_add, Int.natCast_one, Int.natCast_zero, Int.cast_ofNat_Int, Nat.add_zero, Bool.false_eq_true, if_false, if_true]); (try exact JL_refl _)))
      · (repeat (first | ((first | (refine And.intro ?_ ?_; focus exact PLA) | refine WA_seq (WA_region ?_) | refine WA_region ?_ | refine WA_exit ?_); try simp (maxSteps := 1000000) (disch := first | omega | rfl | decide | (simp only [List.length_cons, List.length_nil, List.length_append, Bs_length, Is_length, Vs_length, Bl_length, Il_length] <;> omega)) only [go_sem, Nat.reduceAdd, Int.reduceAdd, Int.reduceSub, Int.reduceMul, Bool.not_true, Bool.not_false]) | refine WA_seq ?_ | refine WA_block ?_ | (refine WA_skip ?_; try simp only [go_sem]) | (refine WA_ret ?_; try simp only [go_sem]) | refine WA_ct rfl ?_ | refine WA_cf rfl ?_))
        rw [show (i + 1) * 4 = i * 4 + 4 by omega]
        (refine Drop_slots (by first | exact Nat.le_refl _ | simp) ?_; focus ((try simp only [JL_same, JL_J, JL_nil, Int.reduceAdd, Nat.sub_sub, Int.natCast_add, Int.natCast_one, Int.natCast_zero, Int.cast_ofNat_Int, Nat.add_zero, Bool.false_eq_true, if_false, if_true]); (try exact JL_refl _)))
    · (repeat (first | ((first | (refine And.intro ?_ ?_; focus exact PLA) | refine WA_seq (WA_region ?_) | refine WA_region ?_ | refine WA_exit ?_); try simp (maxSteps := 1000000) (disch := first | omega | rfl | decide | (simp only [List.length_cons, List.length_nil, List.length_append, Bs_length, Is_length, Vs_length, Bl_length, Il_length] <;> omega)) only [go_sem, Nat.reduceAdd, Int.reduceAdd, Int.reduceSub, Int.reduceMul, Bool.not_true, Bool.not_false]) | refine WA_seq ?_ | refine WA_block ?_ | (refine WA_skip ?_; try simp only [go_sem]) | (refine WA_ret ?_; try simp only [go_sem]) | refine WA_ct rfl ?_ | refine WA_cf rfl ?_))
      refine WA_forP (fun k => [(8, J), (48, .int .i64 k), (49, J), (50, J), (51, J), (52, J), (53, J), (54, J), (55, J), (56, J), (57, J), (58, J), (59, J)]) (fun k => [(1, ⟨Ci 285 hBoxF hMixF (pre k hPlF zF) r, true⟩)]) (16) ?_ ?_ ?_ <;> (try simp only [patT_cons, patT_nil, patL_cons, patL_nil, list_set_zero, list_set_succ, blk_set_zero, blk_set_succ])
      · rw [pre_zero]
        (refine Drop_slots (by first | exact Nat.le_refl _ | simp) ?_; focus ((try simp only [JL_same, JL_J, JL_nil, Int.reduceAdd, Nat.sub_sub, Int.natCast_add, Int.natCast_one, Int.natCast_zero, Int.cast_ofNat_Int, Nat.add_zero, Bool.false_eq_true, if_false, if_true]); (try exact JL_refl _)))
      · intro i hi16
        (repeat (first | ((first | (refine And.intro ?_ ?_; focus exact PLA) | refine WA_seq (WA_region ?_) | refine WA_region ?_ | refine WA_exit ?_); try simp (maxSteps := 1000000) (disch := first | omega | rfl | decide | (simp only [List.length_cons, List.length_nil, List.length_append, Bs_length, Is_length, Vs_length, Bl_length, Il_length] <;> omega)) only [go_sem, Nat.reduceAdd, Int.reduceAdd, Int.reduceSub, Int.reduceMul, Bool.not_true, Bool.not_false, upd_pre, show UInt8.ofNat ((13 * i + 4) % 16) = hPlF i from rfl]) | refine WA_seq ?_ | refine WA_block ?_ | (refine WA_skip ?_; try simp only [go_sem]) | (refine WA_ret ?_; try simp only [go_sem]) | refine WA_ct rfl ?_ | refine WA_cf rfl ?_))
        (refine Drop_slots (by first | exact Nat.le_refl _ | simp) ?_; focus ((try simp only [JL_same, JL_J, JL_nil, Int.reduceAdd, Nat.sub_sub, Int.natCast_add, Int.natCast_one, Int.natCast_zero, Int.cast_ofNat_Int, Nat.add_zero, Bool.false_eq_true, if_false, if_true]); (try exact JL_refl _)))
      · (repeat (first | ((first | (refine And.intro ?_ ?_; focus exact PLA) | refine WA_seq (WA_region ?_) | refine WA_region ?_ | refine WA_exit ?_); try simp (maxSteps := 1000000) (disch := first | omega | rfl | decide | (simp only [List.length_cons, List.length_nil, List.length_append, Bs_length, Is_length, Vs_length, Bl_length, Il_length] <;> omega)) only [go_sem, Nat.reduceAdd, Int.reduceAdd, Int.reduceSub, Int.reduceMul, Bool.not_true, Bool.not_false]) | refine WA_seq ?_ | refine WA_block ?_ | (refine WA_skip ?_; try simp only [go_sem]) | (refine WA_ret ?_; try simp only [go_sem]) | refine WA_ct rfl ?_ | refine WA_cf rfl ?_))
        ((first | refine ret_nA ?_ | refine ret_sA ?_ | refine ret_fA ?_); simp (maxSteps := 1000000) (disch := first | omega | rfl | decide | (simp only [List.length_cons, List.length_nil, List.length_append, Bs_length, Is_length, Vs_length, Bl_length, Il_length] <;> omega)) only [go_sem, Nat.reduceAdd, Int.reduceAdd, Int.reduceSub, Int.reduceMul, Bool.not_true, Bool.not_false]; try rfl)

end Go.Proofs.Ytcfpninklbnifaa
/- Matrices: reducing one to the unit matrix. Plain. -/
namespace Go.Proofs.Ytcfpninklbnifaa
set_option linter.unusedSimpArgs false
set_option linter.unusedVariables false
set_option maxRecDepth 20000
set_option maxHeartbeats 1000000
open Go.Abs

theorem over_zero (f g : Nat → UInt8) (o : Nat) : over f o 0 g = f := by funext i; unfold over; rw [if_neg (by omega)]
theorem over_set (f g : Nat → UInt8) (o j : Nat) : upd (over f o j g) (o + j) (g j) = over f o (j + 1) g := by
  funext i; unfold upd over
  by_cases h : i = o + j
  · rw [if_pos h, if_pos (by omega)]; congr 1; omega
  · rw [if_neg h]
    by_cases h2 : o ≤ i ∧ i < o + j
    · rw [if_pos h2, if_pos (by omega)]
    · rw [if_neg h2, if_neg (by omega)]
theorem over_at (f g : Nat → UInt8) (o j : Nat) : over f o j g (o + j) = f (o + j) := by unfold over; rw [if_neg (by omega)]
theorem over_out {f g : Nat → UInt8} {o j x : Nat} (h : x < o ∨ o + j ≤ x) : over f o j g x = f x := by unfold over; rw [if_neg (by omega)]
theorem over_same (f : Nat → UInt8) (o j : Nat) : over f o j (fun t => f (o + t)) = f := by
  funext i; unfold over; split
  · show f (o + (i - o)) = f i
    congr 1; omega
  · rfl

/-- How often p holds on from s. -/
def skip (p : Nat → Bool) : Nat → Nat → Nat
  | 0, _ => 0
  | f + 1, s => if p s then skip p f (s + 1) + 1 else 0
theorem skip_go {p : Nat → Bool} : ∀ f s r, r < skip p f s → p (s + r) = true
  | 0, _, _, h => by simp [skip] at h
  | f + 1, s, r, h => by
    rw [skip] at h
    split at h
    · rename_i hp
      cases r with
      | zero => exact hp
      | succ r => have := skip_go (p := p) f (s + 1) r (by omega); rwa [show s + (r + 1) = s + 1 + r by omega]
    · omega
theorem skip_end {p : Nat → Bool} : ∀ f s, skip p f s < f → p (s + skip p f s) = false
  | 0, _, h => by omega
  | f + 1, s, h => by
    rw [skip] at h ⊢
    split
    · rename_i hp
      rw [if_pos hp] at h
      have := skip_end (p := p) f (s + 1) (by omega)
      rwa [show s + (skip p f (s + 1) + 1) = s + 1 + skip p f (s + 1) by omega]
    · rename_i hp; simpa using hp

def pivP (a : Nat → UInt8) (k i : Nat) : Bool := decide (i < 4) && a (i * 4 + k) == 0
def pivC (a : Nat → UInt8) (k : Nat) : Nat := skip (pivP a k) 8 k
def piv (a : Nat → UInt8) (k : Nat) : Nat := k + pivC a k
theorem piv_go {a : Nat → UInt8} {k r : Nat} (h : r < pivC a k) : k + r < 4 ∧ (a ((k + r) * 4 + k) == 0) = true := by
  have := skip_go _ _ _ h
  unfold pivP at this
  rwa [Bool.and_eq_true, decide_eq_true_eq] at this
theorem piv_le (a : Nat → UInt8) {k : Nat} (hk : k < 4) : k ≤ piv a k ∧ piv a k ≤ 4 := by
  unfold piv
  refine ⟨Nat.le_add_right _ _, ?_⟩
  cases h : pivC a k with
  | zero => omega
  | succ r => have := piv_go (a := a) (k := k) (r := r) (by omega); omega
theorem piv_end {a : Nat → UInt8} {k : Nat} (hk : k < 4) (h : piv a k < 4) : (a (piv a k * 4 + k) == 0) = false := by
  have h2 : skip (pivP a k) 8 k < 8 := by have : piv a k = k + skip (pivP a k) 8 k := rfl; omega
  have := skip_end _ _ h2
  unfold pivP at this
  rw [show k + skip (fun i => decide (i < 4) && a (i * 4 + k) == 0) 8 k = piv a k from rfl] at this
  rw [decide_eq_true h, Bool.true_and] at this
  exact this

def swp (a : Nat → UInt8) (i k : Nat) : Nat → UInt8 := over (over a (i * 4) 4 (fun t => a (k * 4 + t))) (k * 4) 4 (fun t => a (i * 4 + t))
def scl (m : Nat) (x : Nat → UInt8) (k : Nat) (v : UInt8) (j : Nat) : Nat → UInt8 := over x (k * 4) j fun t => tm m (x (k * 4 + t)) v
def elm (m : Nat) (f : UInt8) (k r : Nat) (x : Nat → UInt8) (j : Nat) : Nat → UInt8 := over x (r * 4) j fun t => x (r * 4 + t) ^^^ tm m f (x (k * 4 + t))
theorem scl_zero (m : Nat) (x : Nat → UInt8) (k : Nat) (v : UInt8) : scl m x k v 0 = x := over_zero _ _ _
theorem scl_at (m : Nat) (x : Nat → UInt8) (k : Nat) (v : UInt8) (j : Nat) : scl m x k v j (k * 4 + j) = x (k * 4 + j) := over_at _ _ _ _
theorem scl_set (m : Nat) (x : Nat → UInt8) (k : Nat) (v : UInt8) (j : Nat) : upd (scl m x k v j) (k * 4 + j) (tm m (x (k * 4 + j)) v) = scl m x k v (j + 1) := over_set x (fun t => tm m (x (k * 4 + t)) v) _ _
theorem elm_zero (m : Nat) (f : UInt8) (k r : Nat) (x : Nat → UInt8) : elm m f k r x 0 = x := over_zero _ _ _
theorem elm_at (m : Nat) (f : UInt8) (k r : Nat) (x : Nat → UInt8) (j : Nat) : elm m f k r x j (r * 4 + j) = x (r * 4 + j) := over_at _ _ _ _
theorem elm_key {m : Nat} {f : UInt8} {k r : Nat} {x : Nat → UInt8} {j t : Nat} (h : r ≠ k) (ht : t < 4) (hj : j ≤ 4) : elm m f k r x j (k * 4 + t) = x (k * 4 + t) := over_out (by omega)
theorem elm_set (m : Nat) (f : UInt8) (k r : Nat) (x : Nat → UInt8) (j : Nat) : upd (elm m f k r x j) (r * 4 + j) (x (r * 4 + j) ^^^ tm m f (x (k * 4 + j))) = elm m f k r x (j + 1) := over_set x (fun t => x (r * 4 + t) ^^^ tm m f (x (k * 4 + t))) _ _
theorem tm_zero (m : Nat) (x : UInt8) : tm m 0 x = 0 := by
  have hd : ∀ k, dblN m 0 k = 0 := by
    intro k; induction k with
    | zero => rfl
    | succ k ih => rw [dblN, ih]; rfl
  have : ∀ k, mulP m 0 x.toNat k = 0 := by
    intro k; induction k with
    | zero => rfl
    | succ k ih => rw [mulP, ih, hd]; simp
  unfold tm mulN
  rw [show (0 : UInt8).toNat = 0 from rfl, this]; rfl
theorem elm_f0 (m k r : Nat) (x : Nat → UInt8) (j : Nat) : elm m 0 k r x j = x := by
  unfold elm
  simp only [tm_zero, UInt8.xor_zero]
  exact over_same _ _ _

def elN (m k : Nat) (a b : Nat → UInt8) : Nat → (Nat → UInt8) × (Nat → UInt8)
  | 0 => (a, b)
  | r + 1 => if r = k then elN m k a b r else (elm m ((elN m k a b r).1 (r * 4 + k)) k r (elN m k a b r).1 4, elm m ((elN m k a b r).1 (r * 4 + k)) k r (elN m k a b r).2 4)
theorem elN_same {m k : Nat} {a b : Nat → UInt8} : elN m k a b (k + 1) = elN m k a b k := by rw [elN, if_pos rfl]
theorem elN_other {m k r : Nat} {a b : Nat → UInt8} (h : r ≠ k) : elN m k a b (r + 1) = (elm m ((elN m k a b r).1 (r * 4 + k)) k r (elN m k a b r).1 4, elm m ((elN m k a b r).1 (r * 4 + k)) k r (elN m k a b r).2 4) := by rw [elN, if_neg h]
theorem elN_f0 {m k r : Nat} {a b : Nat → UInt8} (h : (elN m k a b r).1 (r * 4 + k) = 0) : elN m k a b (r + 1) = elN m k a b r := by
  rw [elN, h, elm_f0, elm_f0]; split <;> rfl

structure RS where
  a : Nat → UInt8
  b : Nat → UInt8
  d : UInt8
def stepR (m k : Nat) (s : RS) : RS :=
  ⟨(elN m k (scl m (swp s.a (piv s.a k) k) k (inv m (swp s.a (piv s.a k) k (k * 4 + k))) 4) (scl m (swp s.b (piv s.a k) k) k (inv m (swp s.a (piv s.a k) k (k * 4 + k))) 4) 4).1,
   (elN m k (scl m (swp s.a (piv s.a k) k) k (inv m (swp s.a (piv s.a k) k (k * 4 + k))) 4) (scl m (swp s.b (piv s.a k) k) k (inv m (swp s.a (piv s.a k) k (k * 4 + k))) 4) 4).2,
   tm m s.d (swp s.a (piv s.a k) k (k * 4 + k))⟩
def unitP (k : Nat) : Nat → UInt8 := fun x => if x % 5 = 0 ∧ x < 5 * k then 1 else 0
def unitF : Nat → UInt8 := unitP 4
theorem unitP_zero : unitP 0 = fun _ => 0 := by funext i; simp [unitP]
theorem unitP_set (k : Nat) : upd (unitP k) (k * 4 + k) 1 = unitP (k + 1) := by
  funext i; unfold upd unitP
  by_cases h : i = k * 4 + k
  · rw [if_pos h, if_pos (by omega)]
  · rw [if_neg h]
    by_cases h2 : i % 5 = 0 ∧ i < 5 * k
    · rw [if_pos h2, if_pos (by omega)]
    · rw [if_neg h2, if_neg (by omega)]
def rs (m : Nat) (a : Nat → UInt8) : Nat → RS
  | 0 => ⟨a, unitF, 1⟩
  | k + 1 => stepR m k (rs m a k)
/-- A column without a pivot among the first n. -/
def sing (m : Nat) (a : Nat → UInt8) : Nat → Bool
  | 0 => false
  | k + 1 => sing m a k || piv (rs m a k).a k == 4
theorem sing_mono {m : Nat} {a : Nat → UInt8} {k : Nat} : ∀ {n}, k < n → piv (rs m a k).a k = 4 → sing m a n = true
  | 0, h, _ => by omega
  | n + 1, h, hp => by
    rw [sing, Bool.or_eq_true]
    by_cases e : k = n
    · subst e; right; simp [hp]
    · left; exact sing_mono (by omega) hp
theorem sing_next {m : Nat} {a : Nat → UInt8} {k : Nat} (h : sing m a k = false) (hp : piv (rs m a k).a k ≠ 4) : sing m a (k + 1) = false := by
  rw [sing, h, Bool.false_or]; simpa using hp
def detF (m : Nat) (a : Nat → UInt8) : UInt8 := if sing m a 4 then 0 else (rs m a 4).d
def backF (m : Nat) (a : Nat → UInt8) : Nat → UInt8 := if sing m a 4 then zeroF else (rs m a 4).b

theorem WA_mid {P : Program} {n0 : Nat} {x y : Code} {Q Q' : Exit → AS → Prop} {s : AS} (S : AS) (h : WA P n0 x (Then (fun s' => Drop n0 s' S) Q') s) (h2 : WA P n0 y Q S) : WA P n0 x (Then (WA P n0 y Q) Q') s :=
  WA_mono h fun e s' hq => by
    cases e <;> first | exact WA_pre hq h2 | exact hq
theorem WA_midP {P : Program} {n0 : Nat} {x y : Code} {Q Q' : Exit → AS → Prop} {t : List Value} {H L : List Blk} (ps : List (Nat × Value)) (L' : List Blk)
    (h : WA P n0 x (Then (fun s' => Drop n0 s' ⟨patT t ps, H ++ L'⟩) Q') ⟨t, H ++ L⟩) (h2 : WA P n0 y Q ⟨patT t ps, H ++ L'⟩) : WA P n0 x (Then (WA P n0 y Q) Q') ⟨t, H ++ L⟩ := WA_mid _ h h2
theorem unitS_ac (h : List Blk) : AC Try.prog 125 [] h (.agg (Bs 16 unitF).toArray) h := by
  (refine AC_begin (fun _ _ => Try.call125 _ _) Try.func125 rfl Try.ntmps125 Try.results125 (fun hwf => ?_); simp only [List.length_cons, List.length_nil, Nat.reduceAdd, Nat.reduceSub, List.replicate, List.cons_append, List.nil_append])
  (repeat (first | ((first | (refine And.intro ?_ ?_; focus exact PLA) | refine WA_seq (WA_region ?_) | refine WA_region ?_ | refine WA_exit ?_); try simp (maxSteps := 1000000) (disch := first | omega | rfl | decide | (simp only [List.length_cons, List.length_nil, List.length_append, Bs_length, Is_length, Vs_length, Bl_length, Il_length] <;> omega)) only [go_sem, Nat.reduceAdd, Int.reduceAdd, Int.reduceSub, Int.reduceMul, Bool.not_true, Bool.not_false]) | refine WA_seq ?_ | refine WA_block ?_ | (refine WA_skip ?_; try simp only [go_sem]) | (refine WA_ret ?_; try simp only [go_sem]) | refine WA_ct rfl ?_ | refine WA_cf rfl ?_))
  refine WA_forP (fun k => [(2, .int .i64 k), (4, J), (5, J), (6, J), (7, J), (8, J), (9, J), (10, J), (11, J)]) (fun k => [(1, ⟨Bs 16 (unitP k), true⟩)]) (4) ?_ ?_ ?_ <;> (try simp only [patT_cons, patT_nil, patL_cons, patL_nil, list_set_zero, list_set_succ, blk_set_zero, blk_set_succ])
  · (refine Drop_slots (by first | exact Nat.le_refl _ | simp) ?_; focus ((try simp only [JL_same, JL_J, JL_nil, Int.reduceAdd, Nat.sub_sub, Int.natCast_add, Int.natCast_one, Int.natCast_zero, Int.cast_ofNat_Int, Nat.add_zero, Bool.false_eq_true, if_false, if_true, unitP_zero]); (try exact JL_refl _)))
  · intro k hk
    (repeat (first | ((first | (refine And.intro ?_ ?_; focus exact PLA) | refine WA_seq (WA_region ?_) | refine WA_region ?_ | refine WA_exit ?_); try simp (maxSteps := 1000000) (disch := first | omega | rfl | decide | (simp only [List.length_cons, List.length_nil, List.length_append, Bs_length, Is_length, Vs_length, Bl_length, Il_length] <;> omega)) only [go_sem, Nat.reduceAdd, Int.reduceAdd, Int.reduceSub, Int.reduceMul, Bool.not_true, Bool.not_false, unitP_set]) | refine WA_seq ?_ | refine WA_block ?_ | (refine WA_skip ?_; try simp only [go_sem]) | (refine WA_ret ?_; try simp only [go_sem]) | refine WA_ct rfl ?_ | refine WA_cf rfl ?_))
    (refine Drop_slots (by first | exact Nat.le_refl _ | simp) ?_; focus ((try simp only [JL_same, JL_J, JL_nil, Int.reduceAdd, Nat.sub_sub, Int.natCast_add, Int.natCast_one, Int.natCast_zero, Int.cast_ofNat_Int, Nat.add_zero, Bool.false_eq_true, if_false, if_true]); (try exact JL_refl _)))
  · (repeat (first | ((first | (refine And.intro ?_ ?_; focus exact PLA) | refine WA_seq (WA_region ?_) | refine WA_region ?_ | refine WA_exit ?_); try simp (maxSteps := 1000000) (disch := first | omega | rfl | decide | (simp only [List.length_cons, List.length_nil, List.length_append, Bs_length, Is_length, Vs_length, Bl_length, Il_length] <;> omega)) only [go_sem, Nat.reduceAdd, Int.reduceAdd, Int.reduceSub, Int.reduceMul, Bool.not_true, Bool.not_false]) | refine WA_seq ?_ | refine WA_block ?_ | (refine WA_skip ?_; try simp only [go_sem]) | (refine WA_ret ?_; try simp only [go_sem]) | refine WA_ct rfl ?_ | refine WA_cf rfl ?_))
    ((first | refine ret_nA ?_ | refine ret_sA ?_ | refine ret_fA ?_); simp (maxSteps := 1000000) (disch := first | omega | rfl | decide | (simp only [List.length_cons, List.length_nil, List.length_append, Bs_length, Is_length, Vs_length, Bl_length, Il_length] <;> omega)) only [go_sem, Nat.reduceAdd, Int.reduceAdd, Int.reduceSub, Int.reduceMul, Bool.not_true, Bool.not_false, unitF]; try rfl)

theorem unitI_ac (h : List Blk) : AC Try.prog 115 [] h (.agg (Bs 16 unitF).toArray) h := by
  (refine AC_begin (fun _ _ => Try.call115 _ _) Try.func115 rfl Try.ntmps115 Try.results115 (fun hwf => ?_); simp only [List.length_cons, List.length_nil, Nat.reduceAdd, Nat.reduceSub, List.replicate, List.cons_append, List.nil_append])
  (repeat (first | ((first | (refine And.intro ?_ ?_; focus exact PLA) | refine WA_seq (WA_region ?_) | refine WA_region ?_ | refine WA_exit ?_); try simp (maxSteps := 1000000) (disch := first | omega | rfl | decide | (simp only [List.length_cons, List.length_nil, List.length_append, Bs_length, Is_length, Vs_length, Bl_length, Il_length] <;> omega)) only [go_sem, Nat.reduceAdd, Int.reduceAdd, Int.reduceSub, Int.reduceMul, Bool.not_true, Bool.not_false]) | refine WA_seq ?_ | refine WA_block ?_ | (refine WA_skip ?_; try simp only [go_sem]) | (refine WA_ret ?_; try simp only [go_sem]) | refine WA_ct rfl ?_ | refine WA_cf rfl ?_))
  refine WA_forP (fun k => [(2, J), (4, .int .i64 k), (5, J), (6, J), (7, J), (8, J), (9, J), (10, J), (11, J)]) (fun k => [(1, ⟨Bs 16 (unitP k), true⟩)]) (4) ?_ ?_ ?_ <;> (try simp only [patT_cons, patT_nil, patL_cons, patL_nil, list_set_zero, list_set_succ, blk_set_zero, blk_set_succ])
  · (refine Drop_slots (by first | exact Nat.le_refl _ | simp) ?_; focus ((try simp only [JL_same, JL_J, JL_nil, Int.reduceAdd, Nat.sub_sub, Int.natCast_add, Int.natCast_one, Int.natCast_zero, Int.cast_ofNat_Int, Nat.add_zero, Bool.false_eq_true, if_false, if_true, unitP_zero]); (try exact JL_refl _)))
  · intro k hk
    (repeat (first | ((first | (refine And.intro ?_ ?_; focus exact PLA) | refine WA_seq (WA_region ?_) | refine WA_region ?_ | refine WA_exit ?_); try simp (maxSteps := 1000000) (disch := first | omega | rfl | decide | (simp only [List.length_cons, List.length_nil, List.length_append, Bs_length, Is_length, Vs_length, Bl_length, Il_length] <;> omega)) only [go_sem, Nat.reduceAdd, Int.reduceAdd, Int.reduceSub, Int.reduceMul, Bool.not_true, Bool.not_false, unitP_set]) | refine WA_seq ?_ | refine WA_block ?_ | (refine WA_skip ?_; try simp only [go_sem]) | (refine WA_ret ?_; try simp only [go_sem]) | refine WA_ct rfl ?_ | refine WA_cf rfl ?_))
    (refine Drop_slots (by first | exact Nat.le_refl _ | simp) ?_; focus ((try simp only [JL_same, JL_J, JL_nil, Int.reduceAdd, Nat.sub_sub, Int.natCast_add, Int.natCast_one, Int.natCast_zero, Int.cast_ofNat_Int, Nat.add_zero, Bool.false_eq_true, if_false, if_true]); (try exact JL_refl _)))
  · (repeat (first | ((first | (refine And.intro ?_ ?_; focus exact PLA) | refine WA_seq (WA_region ?_) | refine WA_region ?_ | refine WA_exit ?_); try simp (maxSteps := 1000000) (disch := first | omega | rfl | decide | (simp only [List.length_cons, List.length_nil, List.length_append, Bs_length, Is_length, Vs_length, Bl_length, Il_length] <;> omega)) only [go_sem, Nat.reduceAdd, Int.reduceAdd, Int.reduceSub, Int.reduceMul, Bool.not_true, Bool.not_false]) | refine WA_seq ?_ | refine WA_block ?_ | (refine WA_skip ?_; try simp only [go_sem]) | (refine WA_ret ?_; try simp only [go_sem]) | refine WA_ct rfl ?_ | refine WA_cf rfl ?_))
    ((first | refine ret_nA ?_ | refine ret_sA ?_ | refine ret_fA ?_); simp (maxSteps := 1000000) (disch := first | omega | rfl | decide | (simp only [List.length_cons, List.length_nil, List.length_append, Bs_length, Is_length, Vs_length, Bl_length, Il_length] <;> omega)) only [go_sem, Nat.reduceAdd, Int.reduceAdd, Int.reduceSub, Int.reduceMul, Bool.not_true, Bool.not_false, unitF]; try rfl)

end Go.Proofs.Ytcfpninklbnifaa
/- Products in fields: laws of rings; permutations of finite sets. Plain Lean. -/
namespace Go.Proofs.Ytcfpninklbnifaa
set_option linter.unusedSimpArgs false
set_option linter.unusedVariables false
set_option maxRecDepth 20000
set_option maxHeartbeats 1000000
open Go.Abs

theorem inj_surj : ∀ (n : Nat) (g : Nat → Nat), (∀ i, i < n → g i < n) → (∀ i j, i < n → j < n → g i = g j → i = j) → ∀ y, y < n → ∃ i, i < n ∧ g i = y
  | 0, _, _, _, y, hy => absurd hy (Nat.not_lt_zero y)
  | n + 1, g, hr, hi, y, hy => by
    by_cases hv : g n = n
    · by_cases hyn : y = n
      · exact ⟨n, by omega, by omega⟩
      · obtain ⟨i, h1, h2⟩ := inj_surj n g (fun i h => by
            have := hr i (by omega)
            rcases Nat.lt_or_ge (g i) n with h' | h'
            · exact h'
            · have := hi i n (by omega) (by omega) (by omega); omega) (fun i j h h' e => hi i j (by omega) (by omega) e) y (by omega)
        exact ⟨i, by omega, h2⟩
    · have hvn : g n < n := by have := hr n (by omega); omega
      have key := inj_surj n (fun i => if g i = n then g n else g i) (fun i h => by
          show (if g i = n then g n else g i) < n
          split
          · exact hvn
          · have := hr i (by omega); omega) (fun i j h h' e => by
          change (if g i = n then g n else g i) = (if g j = n then g n else g j) at e
          split at e <;> split at e
          · exact hi i j (by omega) (by omega) (by omega)
          · have := hi n j (by omega) (by omega) e; omega
          · have := hi i n (by omega) (by omega) e; omega
          · exact hi i j (by omega) (by omega) e)
      by_cases hy1 : y = g n
      · exact ⟨n, by omega, hy1.symm⟩
      · by_cases hyn : y = n
        · obtain ⟨i, h1, h2⟩ := key (g n) hvn
          change (if g i = n then g n else g i) = g n at h2
          split at h2
          · exact ⟨i, by omega, by omega⟩
          · have := hi i n (by omega) (by omega) h2; omega
        · obtain ⟨i, h1, h2⟩ := key y (by omega)
          change (if g i = n then g n else g i) = y at h2
          split at h2
          · exact absurd h2.symm hy1
          · exact ⟨i, by omega, h2⟩
theorem surj_inj (n : Nat) (g : Nat → Nat) (hr : ∀ i, i < n → g i < n) (hs : ∀ y, y < n → ∃ i, i < n ∧ g i = y) (i j : Nat) (h1 : i < n) (h2 : j < n) (e : g i = g j) : i = j := by
  have hc : ∀ y, ∃ i, y < n → i < n ∧ g i = y := fun y => by
    by_cases h : y < n
    · obtain ⟨i, hi⟩ := hs y h; exact ⟨i, fun _ => hi⟩
    · exact ⟨0, fun h' => absurd h' h⟩
  obtain ⟨k, hk⟩ := Classical.axiomOfChoice hc
  have hk' : ∀ y, y < n → k y < n ∧ g (k y) = y := hk
  have sj := inj_surj n k (fun i h => (hk' i h).1) (fun i j h h' e => by rw [← (hk' i h).2, ← (hk' j h').2, e])
  obtain ⟨y, hy, rfl⟩ := sj i h1
  obtain ⟨z, hz, rfl⟩ := sj j h2
  rw [(hk' y hy).2, (hk' z hz).2] at e; rw [e]
theorem mulP_xor (m a b c : Nat) : ∀ k, mulP m a (b ^^^ c) k = mulP m a b k ^^^ mulP m a c k
  | 0 => by simp [mulP]
  | k + 1 => by
    simp only [mulP, Nat.testBit_xor, mulP_xor m a b c k]
    cases b.testBit k <;> cases c.testBit k
    · rfl
    · simp only [Bool.false_xor, Bool.false_eq_true, if_true, if_false]; rw [Nat.xor_assoc]
    · simp only [Bool.xor_false, Bool.false_eq_true, if_true, if_false]; rw [Nat.xor_assoc, Nat.xor_assoc, Nat.xor_comm (mulP m a c k)]
    · simp only [Bool.xor_self, Bool.false_eq_true, if_true, if_false]
      rw [Nat.xor_assoc, Nat.xor_comm (dblN m a k), Nat.xor_assoc, Nat.xor_self, Nat.xor_zero]
theorem ofNat_xor (x y : Nat) : UInt8.ofNat (x ^^^ y) = UInt8.ofNat x ^^^ UInt8.ofNat y := by
  rw [← UInt8.toNat_inj, UInt8.toNat_xor]
  simp only [UInt8.toNat_ofNat']
  exact Nat.xor_mod_two_pow (n := 8)
theorem tm_xor (m : Nat) (a b c : UInt8) : tm m a (b ^^^ c) = tm m a b ^^^ tm m a c := by
  unfold tm mulN; rw [UInt8.toNat_xor, mulP_xor, ofNat_xor]
theorem pow_or {k l : Nat} (h : l < 2 ^ k) : 2 ^ k ||| l = 2 ^ k + l := by
  have := Nat.two_pow_add_eq_or_of_lt h 1; simpa using this.symm
theorem pow_xor {k l : Nat} (h : l < 2 ^ k) : 2 ^ k ^^^ l = 2 ^ k + l := by
  rw [← pow_or h]
  apply Nat.eq_of_testBit_eq
  intro i
  rw [Nat.testBit_xor, Nat.testBit_or, Nat.testBit_two_pow]
  by_cases hi : k = i
  · subst hi; rw [Nat.testBit_lt_two_pow h]; simp
  · simp [hi]
theorem tm_zeroR (m : Nat) (a : UInt8) : tm m a 0 = 0 := by
  have := tm_xor m a 0 0
  simpa using this

theorem xor_swap (a b c d : Nat) : (a ^^^ b) ^^^ (c ^^^ d) = (a ^^^ c) ^^^ (b ^^^ d) := by
  rw [Nat.xor_assoc, Nat.xor_assoc, ← Nat.xor_assoc b c d, ← Nat.xor_assoc c b d, Nat.xor_comm b c]
theorem ge_bit {x : Nat} (h : x < 256) : (256 ≤ 2 * x) ↔ x.testBit 7 = true := by
  constructor
  · intro h2; exact Nat.testBit_of_two_pow_le_and_two_pow_add_one_gt (i := 7) (by omega) (by omega)
  · intro h2
    have := Nat.ge_two_pow_of_testBit h2; omega
theorem dbl_bit (m : Nat) {x : Nat} (h : x < 256) : dbl m x = if x.testBit 7 then (2 * x) ^^^ m else 2 * x := by
  unfold dbl; simp only [ge_bit h]
theorem dbl_xor (m : Nat) {x y : Nat} (hx : x < 256) (hy : y < 256) : dbl m (x ^^^ y) = dbl m x ^^^ dbl m y := by
  rw [dbl_bit m hx, dbl_bit m hy, dbl_bit m (xor_lt (n := 8) hx hy), Nat.testBit_xor, two_xor]
  cases x.testBit 7 <;> cases y.testBit 7
  · rfl
  · simp only [Bool.false_xor, if_true, Bool.false_eq_true, if_false]; rw [Nat.xor_assoc]
  · simp only [Bool.xor_false, if_true, Bool.false_eq_true, if_false]; rw [Nat.xor_assoc, Nat.xor_assoc, Nat.xor_comm (2 * y)]
  · simp only [Bool.xor_self, if_true, Bool.false_eq_true, if_false]
    rw [xor_swap, Nat.xor_self, Nat.xor_zero]
section
variable {m : Nat} (h0 : 256 ≤ m) (h1 : m < 512)
include h0 h1
omit h0 h1 in
theorem dblN_dbl (a : Nat) : ∀ k, dblN m (dbl m a) k = dbl m (dblN m a k)
  | 0 => rfl
  | k + 1 => by show dbl m _ = dbl m _; rw [dblN_dbl a k]; rfl
theorem dblN_xor {x y : Nat} (hx : x < 256) (hy : y < 256) : ∀ k, dblN m (x ^^^ y) k = dblN m x k ^^^ dblN m y k
  | 0 => rfl
  | k + 1 => by show dbl m _ = dbl m _ ^^^ dbl m _; rw [dblN_xor hx hy k, dbl_xor m (dblN_lt h0 h1 hx k) (dblN_lt h0 h1 hy k)]
theorem mulP_dbl {a : Nat} (ha : a < 256) (b : Nat) : ∀ k, mulP m (dbl m a) b k = dbl m (mulP m a b k)
  | 0 => by simp [mulP, dbl]
  | k + 1 => by
    simp only [mulP, mulP_dbl ha b k, dblN_dbl a k]
    split
    · rw [dbl_xor m (mulP_lt h0 h1 ha k) (dblN_lt h0 h1 ha k)]
    · rfl
theorem mulP_xorL {x y : Nat} (hx : x < 256) (hy : y < 256) (b : Nat) : ∀ k, mulP m (x ^^^ y) b k = mulP m x b k ^^^ mulP m y b k
  | 0 => by simp [mulP]
  | k + 1 => by
    simp only [mulP, mulP_xorL hx hy b k, dblN_xor h0 h1 hx hy k]
    split
    · rw [xor_swap]
    · rfl
theorem mulN_dblN {a : Nat} (ha : a < 256) (b : Nat) : ∀ k, mulN m (dblN m a k) b = dblN m (mulN m a b) k
  | 0 => rfl
  | k + 1 => by
    show mulP m (dbl m (dblN m a k)) b 8 = dbl m (dblN m (mulN m a b) k)
    rw [mulP_dbl h0 h1 (dblN_lt h0 h1 ha k)]; exact congrArg _ (mulN_dblN ha b k)
/-- Products one behind the other may change places. -/
theorem mulN_mulP {a : Nat} (ha : a < 256) (b c : Nat) : ∀ k, mulN m (mulP m a b k) c = mulP m (mulN m a c) b k
  | 0 => by
    show mulP m 0 c 8 = 0
    have := mulP_xorL h0 h1 (x := 0) (y := 0) (by omega) (by omega) c 8
    simpa using this
  | k + 1 => by
    simp only [mulP]
    split
    · rw [show mulN m (mulP m a b k ^^^ dblN m a k) c = mulN m (mulP m a b k) c ^^^ mulN m (dblN m a k) c from mulP_xorL h0 h1 (mulP_lt h0 h1 ha k) (dblN_lt h0 h1 ha k) c 8, mulN_mulP ha b c k, mulN_dblN h0 h1 ha c k]
    · exact mulN_mulP ha b c k
omit h0 h1 in
theorem dblN_one : ∀ k, k < 8 → dblN m 1 k = 2 ^ k
  | 0, _ => rfl
  | k + 1, h => by
    show dbl m (dblN m 1 k) = _
    have h2 : 2 ^ k < 128 := Nat.pow_lt_pow_right (n := 7) (by omega) (by omega)
    rw [dblN_one k (by omega)]; unfold dbl; rw [if_neg (by omega), Nat.pow_succ]; omega
omit h0 h1 in
theorem mulP_one (b : Nat) : ∀ k, k ≤ 8 → mulP m 1 b k = b % 2 ^ k
  | 0, _ => by simp [mulP, Nat.mod_one]
  | k + 1, h => by
    simp only [mulP, mulP_one b k (by omega), dblN_one k (by omega)]
    have hlt : b % 2 ^ k < 2 ^ k := Nat.mod_lt _ (Nat.two_pow_pos k)
    have e := Nat.mod_pow_succ (x := b) (b := 2) (k := k)
    have ht : b.testBit k = decide (b / 2 ^ k % 2 = 1) := Nat.testBit_eq_decide_div_mod_eq
    rw [e, ht]
    rcases Nat.mod_two_eq_zero_or_one (b / 2 ^ k) with h2 | h2 <;> rw [h2]
    · simp
    · rw [if_pos (by simp), Nat.xor_comm, pow_xor hlt]; omega
omit h0 h1 in
theorem mulN_one {b : Nat} (hb : b < 256) : mulN m 1 b = b := by
  unfold mulN; rw [mulP_one b 8 (by omega)]; exact Nat.mod_eq_of_lt hb
theorem mulN_comm {a b : Nat} (ha : a < 256) (hb : b < 256) : mulN m a b = mulN m b a := by
  have e := mulN_mulP h0 h1 (a := 1) (by omega) a b 8
  rw [show mulP m 1 a 8 = a from mulN_one ha, mulN_one hb] at e
  exact e
theorem mulN_assoc {a b : Nat} (ha : a < 256) (hb : b < 256) (c : Nat) : mulN m (mulN m a b) c = mulN m a (mulN m b c) := by
  have hbc : mulN m b c < 256 := mulP_lt h0 h1 hb 8
  -- (a b) c = (a c) b ; a (b c) = (b c) a = (b a) c = (a b) c
  rw [mulN_comm h0 h1 ha hbc, show mulN m (mulN m b c) a = mulN m (mulN m b a) c from mulN_mulP h0 h1 hb c a 8, mulN_comm h0 h1 hb ha]
end

section
variable {m : Nat} (h0 : 256 ≤ m) (h1 : m < 512)
include h0 h1
theorem tm_nat (a b : UInt8) : (tm m a b).toNat = mulN m a.toNat b.toNat := by
  unfold tm; exact u8_ofNat_toNat (mulN_lt h0 h1 (u8_lt a))
theorem tm_comm (a b : UInt8) : tm m a b = tm m b a := by
  unfold tm; rw [mulN_comm h0 h1 (u8_lt a) (u8_lt b)]
theorem tm_xorL (a b c : UInt8) : tm m (a ^^^ b) c = tm m a c ^^^ tm m b c := by
  rw [tm_comm h0 h1, tm_xor, tm_comm h0 h1 c, tm_comm h0 h1 c]
theorem tm_assoc (a b c : UInt8) : tm m (tm m a b) c = tm m a (tm m b c) := by
  rw [← UInt8.toNat_inj, tm_nat h0 h1, tm_nat h0 h1, tm_nat h0 h1, tm_nat h0 h1]
  exact mulN_assoc h0 h1 (u8_lt a) (u8_lt b) c.toNat
theorem tm_one (a : UInt8) : tm m 1 a = a := by
  rw [← UInt8.toNat_inj, tm_nat h0 h1]; exact mulN_one (u8_lt a)
theorem tm_oneR (a : UInt8) : tm m a 1 = a := by rw [tm_comm h0 h1, tm_one h0 h1]
end
end Go.Proofs.Ytcfpninklbnifaa
/- Powers and orders in a field. Plain. -/
namespace Go.Proofs.Ytcfpninklbnifaa
set_option linter.unusedSimpArgs false
set_option linter.unusedVariables false
set_option maxRecDepth 20000
set_option maxHeartbeats 1000000
open Go.Abs

def powN (m : Nat) (a : UInt8) : Nat → UInt8
  | 0 => 1
  | n + 1 => tm m (powN m a n) a
section
variable {m : Nat} (h0 : 256 ≤ m) (h1 : m < 512)
include h0 h1
theorem powN_add (a : UInt8) (i : Nat) : ∀ j, powN m a (i + j) = tm m (powN m a i) (powN m a j)
  | 0 => (tm_oneR h0 h1 _).symm
  | j + 1 => by
    show tm m (powN m a (i + j)) a = tm m (powN m a i) (tm m (powN m a j) a)
    rw [powN_add a i j, tm_assoc h0 h1]
theorem powN_mul (a : UInt8) (i : Nat) : ∀ j, powN m a (i * j) = powN m (powN m a i) j
  | 0 => rfl
  | j + 1 => by
    rw [Nat.mul_succ, powN_add h0 h1, powN_mul a i j]; rfl
theorem powN_one : ∀ n, powN m 1 n = 1
  | 0 => rfl
  | n + 1 => by show tm m (powN m 1 n) 1 = 1; rw [powN_one n, tm_one h0 h1]
theorem sqP_pow (a : UInt8) : ∀ i, sqP m a i = powN m a (2 ^ i)
  | 0 => by show a = tm m 1 a; rw [tm_one h0 h1]
  | i + 1 => by
    show tm m (sqP m a i) (sqP m a i) = _
    rw [sqP_pow a i, ← powN_add h0 h1, ← Nat.two_mul, Nat.pow_succ, Nat.mul_comm]
theorem poP_pow (a : UInt8) (e : Nat) : ∀ i, poP m a e i = powN m a (e % 2 ^ i)
  | 0 => by rw [Nat.pow_zero, Nat.mod_one]; rfl
  | i + 1 => by
    have hm : e % 2 ^ (i + 1) = e % 2 ^ i + 2 ^ i * (e / 2 ^ i % 2) := Nat.mod_pow_succ
    cases hb : e.testBit i
    · rw [poP_f hb, poP_pow a e i, hm]
      have : e / 2 ^ i % 2 = 0 := by
        rw [Nat.testBit_eq_decide_div_mod_eq] at hb
        have := of_decide_eq_false hb
        omega
      rw [this, Nat.mul_zero, Nat.add_zero]
    · rw [poP_t hb, poP_pow a e i, sqP_pow h0 h1, hm]
      have : e / 2 ^ i % 2 = 1 := by
        rw [Nat.testBit_eq_decide_div_mod_eq] at hb
        exact of_decide_eq_true hb
      rw [this, Nat.mul_one, powN_add h0 h1]
theorem po_pow (a : UInt8) (e : Nat) : po m a e = powN m a e := by
  unfold po
  rw [poP_pow h0 h1, Nat.mod_eq_of_lt (lt_blen e)]
end

/-- The order of an element, at most 256. -/
def ordN (m : Nat) (a : UInt8) : Nat := 1 + skip (fun k => powN m a k != 1) 255 1
theorem ordN_lt {m : Nat} {a : UInt8} {k : Nat} (hk : 0 < k) (h : k < ordN m a) : powN m a k ≠ 1 := by
  unfold ordN at h
  have := skip_go _ _ (k - 1) (show k - 1 < skip (fun k => powN m a k != 1) 255 1 by omega)
  rw [show 1 + (k - 1) = k by omega] at this
  simpa using this
theorem ordN_pos (m : Nat) (a : UInt8) : 1 ≤ ordN m a := Nat.le_add_right _ _
theorem ordN_le {m : Nat} {a : UInt8} {k : Nat} (hk : 0 < k) (h : powN m a k = 1) : ordN m a ≤ k := by
  rcases Nat.lt_or_ge k (ordN m a) with h2 | h2
  · exact absurd h (ordN_lt hk h2)
  · exact h2
theorem ordN_is {m : Nat} {a : UInt8} (h : powN m a 255 = 1) : powN m a (ordN m a) = 1 := by
  have hl := ordN_le (by omega) h
  unfold ordN at *
  have := skip_end (p := fun k => powN m a k != 1) 255 1 (by omega)
  simpa using this
theorem ordN_dvd {m : Nat} (h0 : 256 ≤ m) (h1 : m < 512) {a : UInt8} {k : Nat} (h : powN m a 255 = 1) (hk : powN m a k = 1) : k % ordN m a = 0 := by
  have hp := ordN_pos m a
  have ho := ordN_is h
  rcases Nat.eq_zero_or_pos (k % ordN m a) with h2 | h2
  · exact h2
  · refine absurd ?_ (ordN_lt h2 (Nat.mod_lt k hp))
    have e := Nat.div_add_mod k (ordN m a)
    rw [← e, powN_add h0 h1, powN_mul h0 h1, ho, powN_one h0 h1, tm_one h0 h1] at hk
    exact hk

def chkG (m g : Nat) : Bool := po m (UInt8.ofNat g) 255 == 1 && (po m (UInt8.ofNat g) 85 != 1 && (po m (UInt8.ofNat g) 51 != 1 && po m (UInt8.ofNat g) 15 != 1))
def findG (m : Nat) : Nat → Nat → Nat
  | 0, g => g
  | f + 1, g => if chkG m g then g else findG m f (g + 1)
theorem gen_all : ∀ i, i < 256 → fieldB (i + 256) = true → 2 ≤ findG (i + 256) 100 2 ∧ findG (i + 256) 100 2 < 256 ∧ chkG (i + 256) (findG (i + 256) 100 2) = true := by decide +kernel
theorem dvd255 : ∀ d, d < 255 → 0 < d → 255 % d = 0 → 85 % d = 0 ∨ 51 % d = 0 ∨ 15 % d = 0 := by decide +kernel
theorem gen_ex {m : Nat} (h0 : 256 ≤ m) (h1 : m < 512) (hf : fieldB m = true) : ∃ g, 2 ≤ g ∧ g < 256 ∧ powN m (UInt8.ofNat g) 255 = 1 ∧ ordN m (UInt8.ofNat g) = 255 := by
  have := gen_all (m - 256) (by omega) (by rw [show m - 256 + 256 = m by omega]; exact hf)
  rw [show m - 256 + 256 = m by omega] at this
  obtain ⟨a1, a2, a3⟩ := this
  generalize findG m 100 2 = g at *
  unfold chkG at a3
  simp only [Bool.and_eq_true, beq_iff_eq, bne_iff_ne, po_pow h0 h1] at a3
  obtain ⟨b1, b2, b3, b4⟩ := a3
  refine ⟨g, a1, a2, b1, ?_⟩
  have hl := ordN_le (by omega) b1
  have hp := ordN_pos m (UInt8.ofNat g)
  have hd := ordN_dvd h0 h1 b1 b1
  have ho := ordN_is b1
  rcases Nat.lt_or_ge (ordN m (UInt8.ofNat g)) 255 with h | h
  · have key : ∀ k, k % ordN m (UInt8.ofNat g) = 0 → powN m (UInt8.ofNat g) k = 1 := fun k hk => by
      have e := Nat.div_add_mod k (ordN m (UInt8.ofNat g))
      rw [hk, Nat.add_zero] at e
      rw [← e, powN_mul h0 h1, ho, powN_one h0 h1]
    rcases dvd255 _ h hp hd with h2 | h2 | h2
    · exact absurd (key _ h2) b2
    · exact absurd (key _ h2) b3
    · exact absurd (key _ h2) b4
  · omega
theorem tm_zeroL (m : Nat) {a : UInt8} (h0 : 256 ≤ m) (h1 : m < 512) : tm m 0 a = 0 := by rw [tm_comm h0 h1]; exact tm_zeroR m a
/-- Fermat's law. -/
theorem pow255 {m : Nat} (h0 : 256 ≤ m) (h1 : m < 512) (hf : fieldB m = true) {a : UInt8} (ha : a ≠ 0) : powN m a 255 = 1 := by
  obtain ⟨g, _, _, hg, ho⟩ := gen_ex h0 h1 hf
  generalize UInt8.ofNat g = w at *
  have nz : ∀ i, i ≤ 255 → powN m w i ≠ 0 := fun i hi e => by
    have : powN m w (i + (255 - i)) = 0 := by rw [powN_add h0 h1, e, tm_zeroL m h0 h1]
    rw [show i + (255 - i) = 255 by omega, hg] at this
    exact absurd this (by decide)
  have inj : ∀ i j, i < 255 → j < 255 → i < j → powN m w i ≠ powN m w j := fun i j hi hj hij e => by
    have h2 : powN m w (i + (255 - i)) = powN m w (j + (255 - i)) := by rw [powN_add h0 h1, e, ← powN_add h0 h1]
    rw [show i + (255 - i) = 255 by omega, show j + (255 - i) = (j - i) + 255 by omega, powN_add h0 h1 w (j - i) 255, hg, tm_oneR h0 h1] at h2
    exact ordN_lt (show 0 < j - i by omega) (by rw [ho]; omega) h2.symm
  have hpos : ∀ x : UInt8, x ≠ 0 → 0 < x.toNat := fun x hx => Nat.pos_of_ne_zero fun e => hx (UInt8.toNat.inj e)
  obtain ⟨i, hi, e⟩ := inj_surj 255 (fun i => (powN m w i).toNat - 1)
    (fun i hi => by have h2 := u8_lt (powN m w i); have h3 := hpos _ (nz i (by omega)); show (powN m w i).toNat - 1 < 255; omega)
    (fun i j hi hj e => by
      have e' : (powN m w i).toNat - 1 = (powN m w j).toNat - 1 := e
      have h3 := hpos _ (nz i (by omega))
      have h4 := hpos _ (nz j (by omega))
      have h5 : powN m w i = powN m w j := UInt8.toNat.inj (by omega)
      rcases Nat.lt_trichotomy i j with h | h | h
      · exact absurd h5 (inj i j hi hj h)
      · exact h
      · exact absurd h5.symm (inj j i hj hi h))
    (a.toNat - 1) (by have := u8_lt a; have := hpos a ha; omega)
  have e' : (powN m w i).toNat - 1 = a.toNat - 1 := e
  have h3 := hpos _ (nz i (by omega))
  have h4 := hpos a ha
  have h5 : powN m w i = a := UInt8.toNat.inj (by omega)
  rw [← h5, ← powN_mul h0 h1, Nat.mul_comm, powN_mul h0 h1, hg, powN_one h0 h1]
theorem tm_inv {m : Nat} (h0 : 256 ≤ m) (h1 : m < 512) (hf : fieldB m = true) {a : UInt8} (ha : a ≠ 0) : tm m a (inv m a) = 1 := by
  unfold inv
  rw [po_pow h0 h1, tm_comm h0 h1]
  exact pow255 h0 h1 hf ha
end Go.Proofs.Ytcfpninklbnifaa
/- Ciphers compared. -/
namespace Go.Proofs.Ytcfpninklbnifaa
set_option linter.unusedSimpArgs false
set_option linter.unusedVariables false
set_option maxRecDepth 20000
set_option maxHeartbeats 1000000
open Go.Abs

theorem oks_app : ∀ {a b : List CK} {x y : List Value}, oks a x = true → oks b y = true → oks (a ++ b) (x ++ y) = true
  | [], _, [], _, _, h => h
  | [], _, _ :: _, _, h, _ => by cases h
  | _ :: _, _, [], _, h, _ => by cases h
  | k :: a, b, v :: x, y, h1, h2 => by
    simp only [oks, Bool.and_eq_true] at h1
    show (k.ok v && oks (a ++ b) (x ++ y)) = true
    rw [h1.1, oks_app h1.2 h2]; rfl
theorem ceq_ok {k : CK} {v : Value} (h : k.ok v = true) : ceq v v = true := by
  cases k <;> cases v <;> first | (simp [CK.ok] at h; done) | simp [ceq]
theorem leq_oks : ∀ {ks : List CK} {cs : List Value}, oks ks cs = true → leq cs cs = true
  | [], [], _ => rfl
  | [], _ :: _, h => by cases h
  | _ :: _, [], h => by cases h
  | k :: ks, v :: cs, h => by
    simp only [oks, Bool.and_eq_true] at h
    show (ceq v v && leq cs cs) = true
    rw [ceq_ok h.1, leq_oks h.2]; rfl
theorem neq_self {P : Program} {T : TypeId} {ks : List CK} {cs : List Value} (hk : kinds P 8 T = some ks) (hg : P.eqGuardType P.depth T = false) (hm : P.keyTypeAt 8 T = true) (ha : tagg P T = some true) (hz : ks.length = P.cellsOf T) (ho : oks ks cs = true) :
    abin P .neq T (.agg cs.toArray) (.agg cs.toArray) = some (.bool false) := by
  have h : aeq P T cs cs = some true := by
    unfold aeq
    rw [hk, Option.bind_some, if_pos ⟨hg, hm, ha, hz, ho, ho⟩, leq_oks ho]
  show (aeq P T cs cs).map _ = _
  rw [h]; rfl
theorem Ci_oks (m : Int) (bx mx pl : Nat → UInt8) (r : Int) : oks ([.int .i64] ++ (List.replicate 256 (.int .u8) ++ (List.replicate 16 (.int .u8) ++ (List.replicate 16 (.int .u8) ++ [.int .i64])))) (Ci m bx mx pl r) = true :=
  oks_app rfl (oks_app (Bs_oks 256 bx) (oks_app (Bs_oks 16 mx) (oks_app (Bs_oks 16 pl) rfl)))
end Go.Proofs.Ytcfpninklbnifaa
/- Cycles of places: their lengths sum to 16. Plain. -/
namespace Go.Proofs.Ytcfpninklbnifaa
set_option linter.unusedSimpArgs false
set_option linter.unusedVariables false
set_option maxRecDepth 20000
set_option maxHeartbeats 1000000
open Go.Abs

/-- The k-th place of a walk, and what is met then. -/
def cyI (p : Nat → UInt8) (i : Nat) : Nat → Nat
  | 0 => i
  | k + 1 => (p (cyI p i k)).toNat
def cyD (p : Nat → UInt8) (d : Nat → Bool) (i : Nat) : Nat → (Nat → Bool)
  | 0 => d
  | k + 1 => upd (cyD p d i k) (cyI p i k) true
/-- How long the walk is. -/
def cyN (p : Nat → UInt8) (d : Nat → Bool) (i : Nat) : Nat := skip (fun k => !(cyD p d i k (cyI p i k))) 17 0
def cyL (p : Nat → UInt8) (i k : Nat) : List Int := (List.range k).map fun j => ((cyI p i j : Nat) : Int)
section
variable {p : Nat → UInt8} (hp : ∀ i, i < 16 → (p i).toNat < 16)
include hp
end
/-- What is met, and the cycles, after the first s starts. -/
def cyR (p : Nat → UInt8) : Nat → (Nat → Bool) × List (List Int)
  | 0 => (fun _ => false, [])
  | s + 1 => (cyD p (cyR p s).1 s (cyN p (cyR p s).1 s), if cyN p (cyR p s).1 s = 0 then (cyR p s).2 else (cyR p s).2 ++ [cyL p s (cyN p (cyR p s).1 s)])
/-- The number of cycles after s starts, and the j-th cycle. -/
def cyC (p : Nat → UInt8) (s : Nat) : Nat := (cyR p s).2.length
def cyRow (p : Nat → UInt8) (j : Nat) : List Int := (cyR p 16).2.getD j []
section
variable {p : Nat → UInt8} (hp : ∀ i, i < 16 → (p i).toNat < 16)
include hp
end
end Go.Proofs.Ytcfpninklbnifaa
