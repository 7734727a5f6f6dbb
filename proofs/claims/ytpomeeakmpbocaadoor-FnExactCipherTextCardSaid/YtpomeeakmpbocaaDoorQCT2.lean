/- FnExactCipherText is proved: whatever the input, the law returns true and its argument reads as it did. The listed package-level variables are tied to the program's text. -/
import Derived.Test.YtpomeeakmpbocaaDoorCards
import Derived.Test.YtpomeeakmpbocaaDoorTie
import Derived.LaidMore
import Derived.Lay
import Derived.SevenTiedAt
import Derived.Stop.Joined
import Derived.Stop.LaidErr
import Derived.Test.YtpomeeakmpbocaaDoorQCTH
import Derived.Test.YtpomeeakmpbocaaDoorQCT0
import Derived.Test.YtpomeeakmpbocaaDoorQCT1
/- The text of a cipher: both sides, and the law. -/
namespace Go.Proofs.YtpomeeakmpbocaaDoor
set_option linter.unusedSimpArgs false
set_option linter.unusedVariables false
set_option maxRecDepth 20000
set_option maxHeartbeats 1000000
open Go.Abs

theorem dT_sz1 {n : Nat} (h : n < 10) : (dT n).size = 1 := by rw [dT_small h]; rfl
theorem dT_szs {n : Nat} (h : 10 ≤ n) : (dT n).size = (dT ((n / 10 : Nat) : Int)).size + 1 := by rw [dT_step h, ByteArray.size_append]; rfl
theorem dT_sz {n : Nat} (hn : n < 1000) : (dT n).size ≤ 3 := by
  rcases Nat.lt_or_ge n 10 with h | h
  · rw [dT_sz1 h]; omega
  · rw [dT_szs h]
    rcases Nat.lt_or_ge (n / 10) 10 with h2 | h2
    · rw [dT_sz1 h2]; omega
    · rw [dT_szs h2, dT_sz1 (by omega)]; omega
theorem s47 : (⟨#[47]⟩ : ByteArray).size = 1 := rfl
theorem ciT_size {m r : Nat} (hm : m < 1000) (hr : r < 1000) (bx mx pl : Nat → UInt8) : (ciT m bx mx pl r).size ≤ 1000 := by
  have h1 := dT_sz hm
  have h2 := dT_sz hr
  unfold ciT
  simp only [ByteArray.size_append, hxT_size, s47]
  omega
theorem sz_app {x y : ByteArray} {a b : Nat} (hx : x.size ≤ a) (hy : y.size ≤ b) : (x ++ y).size ≤ a + b := by rw [ByteArray.size_append]; omega
theorem hxT_le (f : Nat → UInt8) (n : Nat) : (hxT f n).size ≤ 2 * n := by rw [hxT_size]; exact Nat.le_refl _
theorem lit5 (z a b c d e : Value) : splice (splice (splice (splice (splice [z, z, z, z, z] (0 * 1) [a]) (1 * 1) [b]) (2 * 1) [c]) (3 * 1) [d]) (4 * 1) [e] = [a, b, c, d, e] := rfl
theorem lit5r (z a b c d e : Value) : splice (splice (splice (splice (splice (repA [z] 5) (0 * 1) [a]) (1 * 1) [b]) (2 * 1) [c]) (3 * 1) [d]) (4 * 1) [e] = [a, b, c, d, e] := rfl
theorem Ci_sl1 (a0 : Int) (a1 a2 a3 : Nat → UInt8) (a4 : Int) (r : Bool) (b : Nat) : slcArr (some ⟨Ci a0 a1 a2 a3 a4, r⟩) b 1 256 1 (some 0) (some 256) = some (sl b 1 256 1) := slcArr_some (by omega) (by rw [Ci_length]; omega)
theorem Ci_sl3 (a0 : Int) (a1 a2 a3 : Nat → UInt8) (a4 : Int) (r : Bool) (b : Nat) : slcArr (some ⟨Ci a0 a1 a2 a3 a4, r⟩) b 273 16 1 (some 0) (some 16) = some (sl b 273 16 1) := slcArr_some (by omega) (by rw [Ci_length]; omega)
attribute [local irreducible] dT hxT mtT ciT
theorem decS_ac {n : Nat} (hn : n < 1000) (h : List Blk) : AC Tryd.prog 24 [.int .i64 n] h (.string (dT n)) h := by
  rcases Nat.lt_or_ge n 10 with h1 | h1
  · exact decS1_ac h1 h
  · rcases Nat.lt_or_ge n 100 with h2 | h2
    · exact decS2_ac h1 h2 h (fun H => decS1_ac (by omega) H) (by have := dT_sz (n := n / 10) (by omega); omega)
    · exact decS3_ac h1 hn h (fun H => decS2_ac (by omega) (by omega) H (fun H => decS1_ac (by omega) H) (by have := dT_sz (n := n / 10 / 10) (by omega); omega)) (by have := dT_sz (n := n / 10) (by omega); omega)

theorem textS_ac {m r : Nat} (hm : m < 1000) (hr : r < 1000) (bx mx pl : Nat → UInt8) (h : List Blk) : AC Tryd.prog 8 [.agg (Ci m bx mx pl r).toArray] h (.string (ciT m bx mx pl r)) h := by
  have e1 : ∀ (H : List Blk) (b : Nat) (q : Bool), H[b]? = some ⟨Ci m bx mx pl r, q⟩ → AC Tryd.prog 25 [sl b 1 256 1] H (.string (hxT bx 256)) H := fun H b q hb => hexS_at hb (fun i hi => Ci_get1 _ _ _ _ _ hi) (by omega)
  have e2 : ∀ (H : List Blk) (b : Nat) (q : Bool), H[b]? = some ⟨Ci m bx mx pl r, q⟩ → AC Tryd.prog 25 [sl b 273 16 1] H (.string (hxT pl 16)) H := fun H b q hb => hexS_at hb (fun i hi => Ci_get3 _ _ _ _ _ hi) (by omega)
  have e3 : ∀ (H : List Blk) (b : Nat) (q : Bool), H[b]? = some ⟨Bs 16 mx, q⟩ → AC Tryd.prog 25 [sl b 0 16 1] H (.string (hxT mx 16)) H := fun H b q hb => hexS_ac hb (by omega)
  have d1 : ∀ H : List Blk, AC Tryd.prog 24 [.int .i64 m] H (.string (dT m)) H := fun H => decS_ac hm H
  have d2 : ∀ H : List Blk, AC Tryd.prog 24 [.int .i64 r] H (.string (dT r)) H := fun H => decS_ac hr H
  have h1 := dT_sz hm
  have h2 := dT_sz hr
  have q0 : (⟨#[47]⟩ : ByteArray).size ≤ 1 := Nat.le_refl _
  have qb := hxT_le bx 256
  have qm := hxT_le mx 16
  have qp := hxT_le pl 16
  have q1 := sz_app h1 q0
  have q2 := sz_app q1 qb
  have q3 := sz_app q2 q0
  have q4 := sz_app q3 qm
  have q5 := sz_app q4 q0
  have q6 := sz_app q5 qp
  have q7 := sz_app q6 q0
  have q8 := sz_app q7 h2
  (refine AC_begin (fun _ _ => Tryd.call8 _ _) Tryd.func8 rfl Tryd.ntmps8 Tryd.results8 (fun hwf => ?_); simp only [List.length_cons, List.length_nil, Nat.reduceAdd, Nat.reduceSub, List.replicate, List.cons_append, List.nil_append])
  (repeat (first | ((first | (refine And.intro ?_ ?_; focus exact PLA) | ((first | with_reducible apply callB_i | with_reducible apply callK_intro | with_reducible apply callQ_i); (focus (first | assumption | ((first | with_reducible apply e1 | with_reducible apply e2 | with_reducible apply e3 | with_reducible apply d1 | with_reducible apply d2 | with_reducible apply rows_ac) <;> (first | assumption | rfl | (simp (disch := omega) only [go_sem]; first | done | rfl) | omega | decide | (simp; done))))); (try exact WP_au)) | refine WA_seq (WA_region ?_) | refine WA_region ?_ | refine WA_exit ?_); try simp (maxSteps := 1000000) (disch := first | omega | rfl | decide | (simp only [List.length_cons, List.length_nil, List.length_append, Bs_length, Is_length, Vs_length, Bl_length, Il_length] <;> omega)) only [go_sem, Nat.reduceAdd, Int.reduceAdd, Int.reduceSub, Int.reduceMul, Bool.not_true, Bool.not_false, Ci_sl1, Ci_sl3]) | (refine (WA_rb (id := 1) [] (SubM.refl _) mixedOk ?_); simp only [List.size_toArray, List.length_cons, List.length_nil]; (repeat (first | ((first | (refine And.intro ?_ ?_; focus exact PLA) | ((first | with_reducible apply callB_i | with_reducible apply callK_intro | with_reducible apply callQ_i | with_reducible apply callC_i); (focus (first | assumption | ((first | with_reducible apply e1 | with_reducible apply e2 | with_reducible apply e3 | with_reducible apply d1 | with_reducible apply d2 | with_reducible apply rows_ac) <;> (first | assumption | rfl | (simp (disch := omega) only [go_sem]; first | done | rfl) | omega | decide | (simp; done))))); (try (focus (first | assumption | exact NL.mk rfl))); (try exact WP_au)) | (refine And.intro ?_ ?_; focus exact PLA) | ((first | with_reducible apply callB_i | with_reducible apply callK_intro | with_reducible apply callC_q); (focus (first | assumption | ((first | with_reducible apply e1 | with_reducible apply e2 | with_reducible apply e3 | with_reducible apply d1 | with_reducible apply d2 | with_reducible apply rows_ac) <;> (first | assumption | rfl | (simp (disch := omega) only [go_sem]; first | done | rfl) | omega | decide | (simp; done))))); (try exact WP_au)) | refine RB_take false [0, 4, 9, 15, 20] 20 (by rfl) (by kernel_rfl) (by decide) (by decide +kernel) ?_ | refine RB_take true [1, 2, 5, 6, 10, 16, 21] 13 (by rfl) (by kernel_rfl) (by decide) (by decide +kernel) ?_ | refine RB_take false [3, 7, 8] 10 (by rfl) (by kernel_rfl) (by decide) (by decide +kernel) ?_ | refine RB_keepC 11 _ (by rfl) (by decide +kernel) ?_ | refine RB_keepC 12 _ (by rfl) (by decide +kernel) ?_ | refine RB_take false [13, 14] 6 (by rfl) (by kernel_rfl) (by decide) (by decide +kernel) ?_ | refine RB_take true [17, 22] 4 (by rfl) (by kernel_rfl) (by decide) (by decide +kernel) ?_ | refine RB_take false [18, 19, 23, 24] 0 (by rfl) (by kernel_rfl) (by decide) (by decide +kernel) ?_ | refine RB_done (by decide +kernel) ?_); try simp (maxSteps := 1000000) (disch := first | omega | rfl | decide | (simp only [List.length_cons, List.length_nil, List.length_append, Bs_length, Is_length, Vs_length, Bl_length, Il_length] <;> omega)) only [go_sem, Nat.reduceAdd, Int.reduceAdd, Int.reduceSub, Int.reduceMul, Bool.not_true, Bool.not_false, Ci_sl1, Ci_sl3])))) | refine WA_seq ?_ | refine WA_block ?_ | (refine WA_skip ?_; try simp only [go_sem]) | (refine WA_ret ?_; try simp only [go_sem]) | refine WA_ct rfl ?_ | refine WA_cf rfl ?_))
  ((first | refine ret_nA ?_ | refine ret_sA ?_ | refine ret_fA ?_); simp (maxSteps := 1000000) (disch := first | omega | rfl | decide | (simp only [List.length_cons, List.length_nil, List.length_append, Bs_length, Is_length, Vs_length, Bl_length, Il_length] <;> omega)) only [go_sem, Nat.reduceAdd, Int.reduceAdd, Int.reduceSub, Int.reduceMul, Bool.not_true, Bool.not_false, ciT]; try rfl)

theorem ctS_no {m r : Int} {bx mx pl : Nat → UInt8} (hb : cipB m bx mx pl r = false) (h : List Blk) : AC Tryd.prog 4 [.agg (Ci m bx mx pl r).toArray] h (.tuple #[.string ⟨#[]⟩, .int .i64 1]) h := by
  (refine AC_begin (fun _ _ => Tryd.call4 _ _) Tryd.func4 rfl Tryd.ntmps4 Tryd.results4 (fun hwf => ?_); simp only [List.length_cons, List.length_nil, Nat.reduceAdd, Nat.reduceSub, List.replicate, List.cons_append, List.nil_append])
  (repeat (first | ((first | (refine And.intro ?_ ?_; focus exact PLA) | ((first | with_reducible apply callB_i | with_reducible apply callK_intro | with_reducible apply callQ_i); (focus (first | assumption | (with_reducible apply cipS_ac <;> (first | assumption | rfl | (simp (disch := omega) only [go_sem]; first | done | rfl) | omega | decide | (simp; done))))); (try exact WP_au)) | refine WA_seq (WA_region ?_) | refine WA_region ?_ | refine WA_exit ?_); try simp (maxSteps := 1000000) (disch := first | omega | rfl | decide | (simp only [List.length_cons, List.length_nil, List.length_append, Bs_length, Is_length, Vs_length, Bl_length, Il_length] <;> omega)) only [go_sem, Nat.reduceAdd, Int.reduceAdd, Int.reduceSub, Int.reduceMul, Bool.not_true, Bool.not_false, hb]) | refine WA_seq ?_ | refine WA_block ?_ | (refine WA_skip ?_; try simp only [go_sem]) | (refine WA_ret ?_; try simp only [go_sem]) | refine WA_ct rfl ?_ | refine WA_cf rfl ?_))
  ((first | refine ret_nA ?_ | refine ret_sA ?_ | refine ret_fA ?_); simp (maxSteps := 1000000) (disch := first | omega | rfl | decide | (simp only [List.length_cons, List.length_nil, List.length_append, Bs_length, Is_length, Vs_length, Bl_length, Il_length] <;> omega)) only [go_sem, Nat.reduceAdd, Int.reduceAdd, Int.reduceSub, Int.reduceMul, Bool.not_true, Bool.not_false]; try rfl)
theorem ctS_ok {m r : Nat} {bx mx pl : Nat → UInt8} (hm : m < 1000) (hr : r < 1000) (hb : cipB m bx mx pl r = true) (h : List Blk) : AC Tryd.prog 4 [.agg (Ci m bx mx pl r).toArray] h (.tuple #[.string (ciT m bx mx pl r), .int .i64 0]) h := by
  (refine AC_begin (fun _ _ => Tryd.call4 _ _) Tryd.func4 rfl Tryd.ntmps4 Tryd.results4 (fun hwf => ?_); simp only [List.length_cons, List.length_nil, Nat.reduceAdd, Nat.reduceSub, List.replicate, List.cons_append, List.nil_append])
  (repeat (first | ((first | (refine And.intro ?_ ?_; focus exact PLA) | ((first | with_reducible apply callB_i | with_reducible apply callK_intro | with_reducible apply callQ_i); (focus (first | assumption | ((first | with_reducible apply cipS_ac | with_reducible apply textS_ac hm hr) <;> (first | assumption | rfl | (simp (disch := omega) only [go_sem]; first | done | rfl) | omega | decide | (simp; done))))); (try exact WP_au)) | refine WA_seq (WA_region ?_) | refine WA_region ?_ | refine WA_exit ?_); try simp (maxSteps := 1000000) (disch := first | omega | rfl | decide | (simp only [List.length_cons, List.length_nil, List.length_append, Bs_length, Is_length, Vs_length, Bl_length, Il_length] <;> omega)) only [go_sem, Nat.reduceAdd, Int.reduceAdd, Int.reduceSub, Int.reduceMul, Bool.not_true, Bool.not_false, hb]) | refine WA_seq ?_ | refine WA_block ?_ | (refine WA_skip ?_; try simp only [go_sem]) | (refine WA_ret ?_; try simp only [go_sem]) | refine WA_ct rfl ?_ | refine WA_cf rfl ?_))
  ((first | refine ret_nA ?_ | refine ret_sA ?_ | refine ret_fA ?_); simp (maxSteps := 1000000) (disch := first | omega | rfl | decide | (simp only [List.length_cons, List.length_nil, List.length_append, Bs_length, Is_length, Vs_length, Bl_length, Il_length] <;> omega)) only [go_sem, Nat.reduceAdd, Int.reduceAdd, Int.reduceSub, Int.reduceMul, Bool.not_true, Bool.not_false]; try rfl)

theorem ctI_no {m r : Int} {bx mx pl : Nat → UInt8} (hb : cipB m bx mx pl r = false) (h : List Blk) : AC Tryd.prog 6 [.agg (Ci m bx mx pl r).toArray] h (.tuple #[.string ⟨#[]⟩, .int .i64 1]) h := by
  (refine AC_begin (fun _ _ => Tryd.call6 _ _) Tryd.func6 rfl Tryd.ntmps6 Tryd.results6 (fun hwf => ?_); simp only [List.length_cons, List.length_nil, Nat.reduceAdd, Nat.reduceSub, List.replicate, List.cons_append, List.nil_append])
  (repeat (first | ((first | (refine And.intro ?_ ?_; focus exact PLA) | ((first | with_reducible apply callB_i | with_reducible apply callK_intro | with_reducible apply callQ_i); (focus (first | assumption | (with_reducible apply cipI_ac <;> (first | assumption | rfl | (simp (disch := omega) only [go_sem]; first | done | rfl) | omega | decide | (simp; done))))); (try exact WP_au)) | refine WA_seq (WA_region ?_) | refine WA_region ?_ | refine WA_exit ?_); try simp (maxSteps := 1000000) (disch := first | omega | rfl | decide | (simp only [List.length_cons, List.length_nil, List.length_append, Bs_length, Is_length, Vs_length, Bl_length, Il_length] <;> omega)) only [go_sem, Nat.reduceAdd, Int.reduceAdd, Int.reduceSub, Int.reduceMul, Bool.not_true, Bool.not_false, hb]) | refine WA_seq ?_ | refine WA_block ?_ | (refine WA_skip ?_; try simp only [go_sem]) | (refine WA_ret ?_; try simp only [go_sem]) | refine WA_ct rfl ?_ | refine WA_cf rfl ?_))
  ((first | refine ret_nA ?_ | refine ret_sA ?_ | refine ret_fA ?_); simp (maxSteps := 1000000) (disch := first | omega | rfl | decide | (simp only [List.length_cons, List.length_nil, List.length_append, Bs_length, Is_length, Vs_length, Bl_length, Il_length] <;> omega)) only [go_sem, Nat.reduceAdd, Int.reduceAdd, Int.reduceSub, Int.reduceMul, Bool.not_true, Bool.not_false]; try rfl)
theorem ctI_ok {m r : Nat} {bx mx pl : Nat → UInt8} (hm : m < 1000) (hr : r < 1000) (hb : cipB m bx mx pl r = true) (h : List Blk) : AC Tryd.prog 6 [.agg (Ci m bx mx pl r).toArray] h (.tuple #[.string (ciT m bx mx pl r), .int .i64 0]) h := by
  have e2 : ∀ (H : List Blk) (b : Nat) (q : Bool), H[b]? = some ⟨Ci m bx mx pl r, q⟩ → AC Tryd.prog 18 [sl b 273 16 1] H (.string (hxT pl 16)) H := fun H b q hb => hexI_at hb (fun i hi => Ci_get3 _ _ _ _ _ hi) (by omega)
  have d1 : ∀ H : List Blk, AC Tryd.prog 16 [.int .i64 m] H (.string (dT m)) H := fun H => decI_ac (by omega) (by omega) H
  have d2 : ∀ H : List Blk, AC Tryd.prog 16 [.int .i64 r] H (.string (dT r)) H := fun H => decI_ac (by omega) (by omega) H
  have hra : ∀ H : List Blk, AC Tryd.prog 13 [.string (mtT mx), .string ⟨#[47]⟩, .string ⟨#[]⟩] H (.string (hxT mx 16)) H := fun H => by
    have := replaceAll_ac (s := mtT mx) (by rw [mtT_size]; omega) H
    rw [mtT_all] at this; exact this
  have hz : (joinB [dT m, hxT bx 256, hxT mx 16, hxT pl 16, dT r] ⟨#[47]⟩).size ≤ 140737488355328 := by
    rw [join_five]
    have := ciT_size hm hr bx mx pl
    unfold ciT at this
    omega
  have hj : ∀ (H : List Blk) (b : Nat) (q : Bool), H[b]? = some ⟨[.string (dT m), .string (hxT bx 256), .string (hxT mx 16), .string (hxT pl 16), .string (dT r)], q⟩ → AC Tryd.prog 15 [sl b 0 5 1, .string ⟨#[47]⟩] H (.string (ciT m bx mx pl r)) H := fun H b q hb => by
    have := join_ac (L := [dT m, hxT bx 256, hxT mx 16, hxT pl 16, dT r]) hb (by simp) (by simp) ⟨#[47]⟩ hz
    rw [join_five] at this
    unfold ciT
    exact this
  (refine AC_begin (fun _ _ => Tryd.call6 _ _) Tryd.func6 rfl Tryd.ntmps6 Tryd.results6 (fun hwf => ?_); simp only [List.length_cons, List.length_nil, Nat.reduceAdd, Nat.reduceSub, List.replicate, List.cons_append, List.nil_append])
  (repeat (first | ((first | (refine And.intro ?_ ?_; focus exact PLA) | ((first | with_reducible apply callB_i | with_reducible apply callK_intro | with_reducible apply callQ_i); (focus (first | assumption | ((first | with_reducible apply cipI_ac | with_reducible apply mtT_ac | with_reducible apply hra | with_reducible apply d1 | with_reducible apply d2 | with_reducible apply bxtI_ac | with_reducible apply e2 | with_reducible apply hj) <;> (first | assumption | rfl | (simp (disch := omega) only [go_sem]; first | done | rfl) | omega | decide | (simp; done))))); (try exact WP_au)) | refine WA_seq (WA_region ?_) | refine WA_region ?_ | refine WA_exit ?_); try simp (maxSteps := 1000000) (disch := first | omega | rfl | decide | (simp only [List.length_cons, List.length_nil, List.length_append, Bs_length, Is_length, Vs_length, Bl_length, Il_length] <;> omega)) only [go_sem, Nat.reduceAdd, Int.reduceAdd, Int.reduceSub, Int.reduceMul, Bool.not_true, Bool.not_false, Ci_sl1, Ci_sl3, hb, lit5, lit5r]) | (refine (WA_rb (id := 4) [13, 14] (SubM.refl _) mixedOk ?_); simp only [List.size_toArray, List.length_cons, List.length_nil]; (repeat (first | ((first | (refine And.intro ?_ ?_; focus exact PLA) | ((first | with_reducible apply callB_i | with_reducible apply callK_intro | with_reducible apply callQ_i); (focus (first | assumption | ((first | with_reducible apply cipI_ac | with_reducible apply mtT_ac | with_reducible apply hra | with_reducible apply d1 | with_reducible apply d2 | with_reducible apply bxtI_ac | with_reducible apply e2 | with_reducible apply hj) <;> (first | assumption | rfl | (simp (disch := omega) only [go_sem]; first | done | rfl) | omega | decide | (simp; done))))); (try exact WP_au)) | refine RB_take false [0, 3, 6, 7, 10] 12 (by rfl) (by kernel_rfl) (by decide) (by decide +kernel) ?_ | refine RB_take true [1, 2, 4, 5, 8, 9, 11, 12] 4 (by rfl) (by kernel_rfl) (by decide) (by decide +kernel) ?_ | refine RB_exec 13 _ (by rfl) (by decide +kernel) (by decide +kernel) ?_ | refine RB_exec 14 _ (by rfl) (by decide +kernel) (by decide +kernel) ?_ | refine RB_take false [15, 16] 0 (by rfl) (by kernel_rfl) (by decide) (by decide +kernel) ?_ | refine RB_done (by decide +kernel) ?_); try simp (maxSteps := 1000000) (disch := first | omega | rfl | decide | (simp only [List.length_cons, List.length_nil, List.length_append, Bs_length, Is_length, Vs_length, Bl_length, Il_length] <;> omega)) only [go_sem, Nat.reduceAdd, Int.reduceAdd, Int.reduceSub, Int.reduceMul, Bool.not_true, Bool.not_false, Ci_sl1, Ci_sl3, hb, lit5, lit5r])))) | refine WA_seq ?_ | refine WA_block ?_ | (refine WA_skip ?_; try simp only [go_sem]) | (refine WA_ret ?_; try simp only [go_sem]) | refine WA_ct rfl ?_ | refine WA_cf rfl ?_))
  ((first | refine ret_nA ?_ | refine ret_sA ?_ | refine ret_fA ?_); simp (maxSteps := 1000000) (disch := first | omega | rfl | decide | (simp only [List.length_cons, List.length_nil, List.length_append, Bs_length, Is_length, Vs_length, Bl_length, Il_length] <;> omega)) only [go_sem, Nat.reduceAdd, Int.reduceAdd, Int.reduceSub, Int.reduceMul, Bool.not_true, Bool.not_false]; try rfl)

theorem cipherText_ac (m r : Int) (bx mx pl : Nat → UInt8) (h : List Blk) : AC Tryd.prog 3 [.agg (Ci m bx mx pl r).toArray] h (.bool true) h := by
  cases hb : cipB m bx mx pl r
  · (refine AC_begin (fun _ _ => Tryd.call3 _ _) Tryd.func3 rfl Tryd.ntmps3 Tryd.results3 (fun hwf => ?_); simp only [List.length_cons, List.length_nil, Nat.reduceAdd, Nat.reduceSub, List.replicate, List.cons_append, List.nil_append])
    (repeat (first | ((first | (refine And.intro ?_ ?_; focus exact PLA) | ((first | with_reducible apply callB_i | with_reducible apply callK_intro | with_reducible apply callQ_i); (focus (first | assumption | ((first | with_reducible apply toCipher_ac | with_reducible apply ctS_no hb | with_reducible apply ctI_no hb) <;> (first | assumption | rfl | (simp (disch := omega) only [go_sem]; first | done | rfl) | omega | decide | (simp; done))))); (try exact WP_au)) | refine WA_seq (WA_region ?_) | refine WA_region ?_ | refine WA_exit ?_); try simp (maxSteps := 1000000) (disch := first | omega | rfl | decide | (simp only [List.length_cons, List.length_nil, List.length_append, Bs_length, Is_length, Vs_length, Bl_length, Il_length] <;> omega)) only [go_sem, Nat.reduceAdd, Int.reduceAdd, Int.reduceSub, Int.reduceMul, Bool.not_true, Bool.not_false, bne_self_eq_false, beq_self_eq_true, Bool.not_true, yieldA_at 3 22]) | refine WA_seq ?_ | refine WA_block ?_ | (refine WA_skip ?_; try simp only [go_sem]) | (refine WA_ret ?_; try simp only [go_sem]) | refine WA_ct rfl ?_ | refine WA_cf rfl ?_))
    ((first | refine ret_nA ?_ | refine ret_sA ?_ | refine ret_fA ?_); simp (maxSteps := 1000000) (disch := first | omega | rfl | decide | (simp only [List.length_cons, List.length_nil, List.length_append, Bs_length, Is_length, Vs_length, Bl_length, Il_length] <;> omega)) only [go_sem, Nat.reduceAdd, Int.reduceAdd, Int.reduceSub, Int.reduceMul, Bool.not_true, Bool.not_false]; try rfl)
  · obtain ⟨m, rfl, _, hm, _, _, _, r, rfl, _, hr⟩ := cipB_nat hb
    (refine AC_begin (fun _ _ => Tryd.call3 _ _) Tryd.func3 rfl Tryd.ntmps3 Tryd.results3 (fun hwf => ?_); simp only [List.length_cons, List.length_nil, Nat.reduceAdd, Nat.reduceSub, List.replicate, List.cons_append, List.nil_append])
    (repeat (first | ((first | (refine And.intro ?_ ?_; focus exact PLA) | ((first | with_reducible apply callB_i | with_reducible apply callK_intro | with_reducible apply callQ_i); (focus (first | assumption | ((first | with_reducible apply toCipher_ac | with_reducible apply ctS_ok (show m < 1000 by omega) (show r < 1000 by omega) hb | with_reducible apply ctI_ok (show m < 1000 by omega) (show r < 1000 by omega) hb) <;> (first | assumption | rfl | (simp (disch := omega) only [go_sem]; first | done | rfl) | omega | decide | (simp; done))))); (try exact WP_au)) | refine WA_seq (WA_region ?_) | refine WA_region ?_ | refine WA_exit ?_); try simp (maxSteps := 1000000) (disch := first | omega | rfl | decide | (simp only [List.length_cons, List.length_nil, List.length_append, Bs_length, Is_length, Vs_length, Bl_length, Il_length] <;> omega)) only [go_sem, Nat.reduceAdd, Int.reduceAdd, Int.reduceSub, Int.reduceMul, Bool.not_true, Bool.not_false, bne_self_eq_false, beq_self_eq_true, Bool.not_true, yieldA_at 3 22]) | refine WA_seq ?_ | refine WA_block ?_ | (refine WA_skip ?_; try simp only [go_sem]) | (refine WA_ret ?_; try simp only [go_sem]) | refine WA_ct rfl ?_ | refine WA_cf rfl ?_))
    ((first | refine ret_nA ?_ | refine ret_sA ?_ | refine ret_fA ?_); simp (maxSteps := 1000000) (disch := first | omega | rfl | decide | (simp only [List.length_cons, List.length_nil, List.length_append, Bs_length, Is_length, Vs_length, Bl_length, Il_length] <;> omega)) only [go_sem, Nat.reduceAdd, Int.reduceAdd, Int.reduceSub, Int.reduceMul, Bool.not_true, Bool.not_false]; try rfl)

end Go.Proofs.YtpomeeakmpbocaaDoor
namespace Go.Proofs.YtpomeeakmpbocaaDoor
set_option linter.unusedSimpArgs false
set_option linter.unusedVariables false
set_option maxRecDepth 20000
set_option maxHeartbeats 1000000
open Go.Abs

theorem cipherText_args (us : List Value) (bl : List Blk) (h : ArgsU Tryd.prog 0 [27] us bl) : AC Tryd.prog 3 us bl (.bool true) bl := by
  obtain ⟨m0, bx0, mx0, pl0, r0, us0, rfl, h0⟩ := h.cipher (by kernel_rfl) (by kernel_rfl)
  obtain ⟨rfl, rfl⟩ := h0.done
  exact cipherText_ac m0 r0 bx0 mx0 pl0 []

theorem cipherText_door {W : World} (h : W.ShapedOpen Tryd.prog) (hX : laidMetH Tryd.prog Rows.fnExactCipherTextRow.laid W) : doorOk W := by
  rw [MakeChecks.laidMetH_plain _ _ _ (by kernel_rfl)] at hX
  have e : (Rows.laid_internal_strconv_uint64pow10 (H := Unit)) = Lib.tabData .u64 Lib.pow10Tab := by kernel_rfl
  have h3 : laidMet Tryd.prog [("internal/strconv.uint64pow10", Rows.laid_internal_strconv_uint64pow10), ("unicode/utf8.acceptRanges", Rows.laid_unicode_utf8_acceptRanges), ("unicode/utf8.first", Rows.laid_unicode_utf8_first)] W := laidMet.tail (laidMet.tail hX)
  rw [e] at h3
  exact doorOk.mk h (doorB.of_tab (Lib.tabIs_of_head (g := 3) (t := 113) (e := 87) (n := 20) (by kernel_rfl) (by kernel_rfl) (by kernel_rfl) (by kernel_rfl) (by kernel_rfl) (by kernel_rfl) h3)) trivial trivial

set_option maxRecDepth 100000 in
set_option maxHeartbeats 1000000 in
theorem cipherText_lifted (os : Os) (started : os.Started) (H : Type) (enc : TypeId × Value → H) :
    ReturnsInHanded {} Tryd.checked os 3 .any (fun w args => (Rows.fnExactCipherTextSpec.pre enc Tryd.prog Tryd.f3 Rows.fnExactCipherTextRow.domain false w args ∧ laidMetH Tryd.prog Rows.fnExactCipherTextRow.laid w) ∧ sizedMet enc Tryd.prog Tryd.f3 (OpenSpec.ofChange Rows.fnExactCipherTextSpec) false w args) (Rows.fnExactCipherTextSpec.post enc Tryd.prog Tryd.f3 false true false false) :=
  frame_law_laid (C := Tryd.checked) (X := fun w => laidMetH Tryd.prog Rows.fnExactCipherTextRow.laid w) (fun _ _ hh h => h.of_heap hh) (by kernel_rfl) started (by kernel_rfl) Tryd.func3 (by kernel_rfl)
    (ChangeSpec.witness_shaped (enc := enc) (C := Tryd.checked) (os := os) (X := fun w _ => laidMetH Tryd.prog Rows.fnExactCipherTextRow.laid w) false (World.laidAll Tryd.prog os Rows.fnExactCipherTextRow.laid) #[.agg (#[.int .i64 0] ++ Array.replicate 288 (.int .u8 0) ++ #[.int .i64 0])] 8 (World.laidAll_os _ _ _)
      (World.shaped_of_ZipB (by kernel_rfl) (by kernel_rfl)) (by kernel_rfl) (by kernel_rfl) (by kernel_rfl)
      (by rw [MakeChecks.laidMetH_plain _ _ _ (by kernel_rfl)]; exact laidMet_laidAll _ (by kernel_rfl) (by kernel_rfl)))
    rfl (fun ds h => by rw [Tryd.params3] at h; match ds, h with | [_], _ => rfl) (fun W h hX => cipherText_door h hX) (by rfl) Tryd.underlying4 (by rw [Tryd.params3]; kernel_rfl)
    (by rw [Tryd.params3]; exact cipherText_args)

theorem cipherText_row : Rows.FnExactCipherTextSaid :=
  OpenClaim.holds_of_wide 3 Tryd.f3 rfl rfl rfl rfl rfl rfl rfl ⟨rfl, rfl, rfl, rfl, rfl⟩ rfl rfl rfl rfl rfl (by kernel_rfl) Tryd.func3 (by kernel_rfl)
    (of_decide_eq_true (by kernel_rfl)) (by unfold Func.isWrapper; first | (rw [if_pos (by decide +kernel)]; kernel_rfl) | (rw [if_neg (by decide +kernel)]; exact ⟨rfl, rfl⟩))
    (fun os started H enc _ => cipherText_lifted os started H enc)

/-- ████ THE STATEMENT ████ -/
theorem cipherText : Rows.FnExactCipherTextCardSaid :=
  Claim7.holds_tied_plain_at .later [] [.data, .data, .data, .data, .pinned] true (true, "cca53cf85d65fcf127fce94b2aa8b7f75e8f6166ead663c26ee0dd93c93452b4") false cipherText_row (fun _ h => by cases h) (by kernel_rfl) (fun _ h => by cases h) fnExactCipherText_row_tie rfl ⟨rfl, rfl⟩ (by kernel_rfl) rfl
    (fun f fn hf hfn => by
      obtain rfl : f = 3 := Option.some.inj ((show Tryd.prog.funcNamed Tryd.f3.name = some 3 by kernel_rfl).symm.trans hf) |>.symm
      obtain rfl : fn = Tryd.f3 := (Option.some.inj (Tryd.func3.symm.trans hfn)).symm
      exact ⟨by kernel_rfl, fun j t ht => by
        rw [Tryd.params3] at ht
        have hm := Array.mem_of_getElem? ht
        have hall : (Tryd.f3.params.toList.all fun u => !Tryd.prog.wantsStandIn u) = true := by kernel_rfl
        rw [Tryd.params3] at hall
        have h2 := List.all_eq_true.1 hall t (by simpa using hm)
        exact (show Tryd.prog.wantsStandIn t = false by simpa using h2)⟩)
    (by kernel_rfl)
#print axioms cipherText
end Go.Proofs.YtpomeeakmpbocaaDoor
