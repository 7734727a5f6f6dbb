/- A part of the proof of FnTrails. -/
import Derived.Test.YtenkjbkcdcionaaGreatQTLH
import Derived.Test.YtenkjbkcdcionaaGreatQTL1
import Derived.Test.YtenkjbkcdcionaaGreatQTL2
import Derived.Test.YtenkjbkcdcionaaGreatQTL3
import Derived.Test.YtenkjbkcdcionaaGreatQTL4
/- Enciphering. -/
namespace Go.Proofs.YtenkjbkcdcionaaGreat
set_option linter.unusedSimpArgs false
set_option linter.unusedVariables false
set_option maxRecDepth 20000
set_option maxHeartbeats 1000000
open Go.Abs

theorem xor16S_ac (f g : Nat → UInt8) (h : List Blk) : AC Tryz.prog 55 [.agg (Bs 16 f).toArray, .agg (Bs 16 g).toArray] h (.agg (Bs 16 (xorF f g)).toArray) h := by
  (refine AC_begin (fun _ _ => Tryz.call55 _ _) Tryz.func55 rfl Tryz.ntmps55 Tryz.results55 (fun hwf => ?_); simp only [LCN, Nat.reduceAdd, Nat.reduceSub, List.replicate])
  (repeat (first | ((first | (refine And.intro ?_ ?_; focus exact PLA) | refine WA_seq (WA_region ?_) | refine WA_region ?_ | refine WA_exit ?_); try simp (maxSteps := 1000000) (disch := first | omega | rfl | decide | (simp only [LX] <;> omega)) only [go_sem, Nat.reduceAdd, Int.reduceAdd, Int.reduceSub, Int.reduceMul, BNS]) | (refine (WA_rb (id := 4) [9] (SubM.refl _) mixedOk ?_); simp only [LSZ]; (repeat (first | ((first | (refine And.intro ?_ ?_; focus exact PLA) | refine RTk false [0, 1, 2, 4, 5] 5 ?_ | refine RTk true [3, 6] 3 ?_ | refine RTk false [7, 8] 1 ?_ | refine REx 9 ?_ | refine RB_done (by decide +kernel) ?_); try simp (maxSteps := 1000000) (disch := first | omega | rfl | decide | (simp only [LX] <;> omega)) only [go_sem, Nat.reduceAdd, Int.reduceAdd, Int.reduceSub, Int.reduceMul, BNS])))) | refine WA_seq ?_ | refine WA_block ?_ | (refine WA_skip ?_; try simp only [go_sem]) | (refine WA_ret ?_; try simp only [go_sem]) | refine WA_ct rfl ?_ | refine WA_cf rfl ?_))
  refine WA_forP (fun k => [(5, .int .i64 k), (6, J), (7, J), (8, J), (9, J), (10, J), (11, J), (12, J), (13, J), (14, J), (15, J), (16, J), (17, J), (18, J)]) (fun k => [(0, ⟨Bs 16 (pre k (xorF f g) f), true⟩)]) (16) ?_ ?_ ?_ <;> (try simp only [PTS])
  · rw [pre_zero]
    (exact sS0)
  · intro k hk
    (repeat (first | ((first | (refine And.intro ?_ ?_; focus exact PLA) | refine WA_seq (WA_region ?_) | refine WA_region ?_ | refine WA_exit ?_); try simp (maxSteps := 1000000) (disch := first | omega | rfl | decide | (simp only [LX] <;> omega)) only [go_sem, Nat.reduceAdd, Int.reduceAdd, Int.reduceSub, Int.reduceMul, BNS, pre_self, upd_pre, show f k ^^^ g k = xorF f g k from rfl]) | (refine (WA_rb (id := 4) [9] (SubM.refl _) mixedOk ?_); simp only [LSZ]; (repeat (first | ((first | (refine And.intro ?_ ?_; focus exact PLA) | refine RTk false [0, 1, 2, 4, 5] 5 ?_ | refine RTk true [3, 6] 3 ?_ | refine RTk false [7, 8] 1 ?_ | refine REx 9 ?_ | refine RB_done (by decide +kernel) ?_); try simp (maxSteps := 1000000) (disch := first | omega | rfl | decide | (simp only [LX] <;> omega)) only [go_sem, Nat.reduceAdd, Int.reduceAdd, Int.reduceSub, Int.reduceMul, BNS, pre_self, upd_pre, show f k ^^^ g k = xorF f g k from rfl])))) | refine WA_seq ?_ | refine WA_block ?_ | (refine WA_skip ?_; try simp only [go_sem]) | (refine WA_ret ?_; try simp only [go_sem]) | refine WA_ct rfl ?_ | refine WA_cf rfl ?_))
    (exact sS0)
  · (repeat (first | ((first | (refine And.intro ?_ ?_; focus exact PLA) | refine WA_seq (WA_region ?_) | refine WA_region ?_ | refine WA_exit ?_); try simp (maxSteps := 1000000) (disch := first | omega | rfl | decide | (simp only [LX] <;> omega)) only [go_sem, Nat.reduceAdd, Int.reduceAdd, Int.reduceSub, Int.reduceMul, BNS]) | (refine (WA_rb (id := 4) [9] (SubM.refl _) mixedOk ?_); simp only [LSZ]; (repeat (first | ((first | (refine And.intro ?_ ?_; focus exact PLA) | refine RTk false [0, 1, 2, 4, 5] 5 ?_ | refine RTk true [3, 6] 3 ?_ | refine RTk false [7, 8] 1 ?_ | refine REx 9 ?_ | refine RB_done (by decide +kernel) ?_); try simp (maxSteps := 1000000) (disch := first | omega | rfl | decide | (simp only [LX] <;> omega)) only [go_sem, Nat.reduceAdd, Int.reduceAdd, Int.reduceSub, Int.reduceMul, BNS])))) | refine WA_seq ?_ | refine WA_block ?_ | (refine WA_skip ?_; try simp only [go_sem]) | (refine WA_ret ?_; try simp only [go_sem]) | refine WA_ct rfl ?_ | refine WA_cf rfl ?_))
    (exact sR @Bs_pre)

theorem xor16I_ac (f g : Nat → UInt8) (h : List Blk) : AC Tryz.prog 52 [.agg (Bs 16 f).toArray, .agg (Bs 16 g).toArray] h (.agg (Bs 16 (xorF f g)).toArray) h := by
  (refine AC_begin (fun _ _ => Tryz.call52 _ _) Tryz.func52 rfl Tryz.ntmps52 Tryz.results52 (fun hwf => ?_); simp only [LCN, Nat.reduceAdd, Nat.reduceSub, List.replicate])
  (repeat (first | ((first | (refine And.intro ?_ ?_; focus exact PLA) | refine WA_seq (WA_region ?_) | refine WA_region ?_ | refine WA_exit ?_); try simp (maxSteps := 1000000) (disch := first | omega | rfl | decide | (simp only [LX] <;> omega)) only [go_sem, Nat.reduceAdd, Int.reduceAdd, Int.reduceSub, Int.reduceMul, BNS]) | (refine (WA_rb (id := 4) [8] (SubM.refl _) mixedOk ?_); simp only [LSZ]; (repeat (first | ((first | (refine And.intro ?_ ?_; focus exact PLA) | refine RTk false [0, 1, 3, 4] 5 ?_ | refine RTk true [2, 5] 3 ?_ | refine RTk false [6, 7] 1 ?_ | refine REx 8 ?_ | refine RB_done (by decide +kernel) ?_); try simp (maxSteps := 1000000) (disch := first | omega | rfl | decide | (simp only [LX] <;> omega)) only [go_sem, Nat.reduceAdd, Int.reduceAdd, Int.reduceSub, Int.reduceMul, BNS])))) | refine WA_seq ?_ | refine WA_block ?_ | (refine WA_skip ?_; try simp only [go_sem]) | (refine WA_ret ?_; try simp only [go_sem]) | refine WA_ct rfl ?_ | refine WA_cf rfl ?_))
  refine WA_forP (fun k => [(5, J), (6, .int .i64 k), (7, J), (8, J), (9, J), (10, J), (11, J), (12, J), (13, J), (14, J), (15, J), (16, J), (17, J)]) (fun k => [(0, ⟨Bs 16 (pre k (xorF f g) f), true⟩)]) (16) ?_ ?_ ?_ <;> (try simp only [PTS])
  · rw [pre_zero]
    (exact sS0)
  · intro k hk
    (repeat (first | ((first | (refine And.intro ?_ ?_; focus exact PLA) | refine WA_seq (WA_region ?_) | refine WA_region ?_ | refine WA_exit ?_); try simp (maxSteps := 1000000) (disch := first | omega | rfl | decide | (simp only [LX] <;> omega)) only [go_sem, Nat.reduceAdd, Int.reduceAdd, Int.reduceSub, Int.reduceMul, BNS, pre_self, upd_pre, show f k ^^^ g k = xorF f g k from rfl]) | (refine (WA_rb (id := 4) [8] (SubM.refl _) mixedOk ?_); simp only [LSZ]; (repeat (first | ((first | (refine And.intro ?_ ?_; focus exact PLA) | refine RTk false [0, 1, 3, 4] 5 ?_ | refine RTk true [2, 5] 3 ?_ | refine RTk false [6, 7] 1 ?_ | refine REx 8 ?_ | refine RB_done (by decide +kernel) ?_); try simp (maxSteps := 1000000) (disch := first | omega | rfl | decide | (simp only [LX] <;> omega)) only [go_sem, Nat.reduceAdd, Int.reduceAdd, Int.reduceSub, Int.reduceMul, BNS, pre_self, upd_pre, show f k ^^^ g k = xorF f g k from rfl])))) | refine WA_seq ?_ | refine WA_block ?_ | (refine WA_skip ?_; try simp only [go_sem]) | (refine WA_ret ?_; try simp only [go_sem]) | refine WA_ct rfl ?_ | refine WA_cf rfl ?_))
    (exact sS0)
  · (repeat (first | ((first | (refine And.intro ?_ ?_; focus exact PLA) | refine WA_seq (WA_region ?_) | refine WA_region ?_ | refine WA_exit ?_); try simp (maxSteps := 1000000) (disch := first | omega | rfl | decide | (simp only [LX] <;> omega)) only [go_sem, Nat.reduceAdd, Int.reduceAdd, Int.reduceSub, Int.reduceMul, BNS]) | (refine (WA_rb (id := 4) [8] (SubM.refl _) mixedOk ?_); simp only [LSZ]; (repeat (first | ((first | (refine And.intro ?_ ?_; focus exact PLA) | refine RTk false [0, 1, 3, 4] 5 ?_ | refine RTk true [2, 5] 3 ?_ | refine RTk false [6, 7] 1 ?_ | refine REx 8 ?_ | refine RB_done (by decide +kernel) ?_); try simp (maxSteps := 1000000) (disch := first | omega | rfl | decide | (simp only [LX] <;> omega)) only [go_sem, Nat.reduceAdd, Int.reduceAdd, Int.reduceSub, Int.reduceMul, BNS])))) | refine WA_seq ?_ | refine WA_block ?_ | (refine WA_skip ?_; try simp only [go_sem]) | (refine WA_ret ?_; try simp only [go_sem]) | refine WA_ct rfl ?_ | refine WA_cf rfl ?_))
    (exact sR @Bs_pre)

def boxF (bx s : Nat → UInt8) : Nat → UInt8 := fun i => bx (s i).toNat
theorem boxesS_ac (bx s : Nat → UInt8) (h : List Blk) : AC Tryz.prog 90 [.agg (Bs 256 bx).toArray, .agg (Bs 16 s).toArray] h (.agg (Bs 16 (boxF bx s)).toArray) h := by
  (refine AC_begin (fun _ _ => Tryz.call90 _ _) Tryz.func90 rfl Tryz.ntmps90 Tryz.results90 (fun hwf => ?_); simp only [LCN, Nat.reduceAdd, Nat.reduceSub, List.replicate])
  (refine sN0 ?_)
  refine WA_forP (fun k => [(5, .int .i64 k), (6, J), (7, J), (8, J), (9, J), (10, J), (11, J), (12, J), (13, J), (14, J), (15, J), (16, J)]) (fun k => [(1, ⟨Bs 16 (pre k (boxF bx s) s), true⟩)]) (16) ?_ ?_ ?_ <;> (try simp only [PTS])
  · rw [pre_zero]
    (exact sS0)
  · intro k hk
    have hx := u8_lt (s k)
    (refine sN (And.intro @pre_self (And.intro @upd_pre (show bx (s k).toNat = boxF bx s k from rfl))) ?_)
    (exact sS0)
  · (refine sN0 ?_)
    (exact sR @Bs_pre)

section
variable (m : Nat) (bx mx pl y s : Nat → UInt8) (n : Nat)
def encP : Nat → Nat → UInt8
  | 0 => xorF s (kyF bx y 0)
  | r + 1 => xorF (layF m mx pl (boxF bx (encP r)) (decide (n ≤ r + 1))) (kyF bx y (r + 1))
def encF : Nat → UInt8 := encP m bx mx pl y s n n
theorem encP_zero : xorF s (kyF bx y 0) = encP m bx mx pl y s n 0 := rfl
theorem encP_mid {r : Nat} (h : r + 1 < n) : xorF (mixF m mx (movF pl (boxF bx (encP m bx mx pl y s n r)))) (kyF bx y (r + 1)) = encP m bx mx pl y s n (r + 1) := by
  rw [encP, show decide (n ≤ r + 1) = false from decide_eq_false (by omega)]; rfl
theorem encP_end {r : Nat} (h : n ≤ r + 1) : xorF (movF pl (boxF bx (encP m bx mx pl y s n r))) (kyF bx y (r + 1)) = encP m bx mx pl y s n (r + 1) := by
  rw [encP, show decide (n ≤ r + 1) = true from decide_eq_true (by omega)]; rfl
theorem keysF_row (r : Nat) : Bs 16 (fun t => keysF bx y (r * 16 + t)) = Bs 16 (kyF bx y r) := Bs_congr fun i hi => by
  unfold keysF; rw [show (r * 16 + i) / 16 = r by omega, show (r * 16 + i) % 16 = i by omega]
theorem keysF_row0 : Bs 16 (fun t => keysF bx y (0 + t)) = Bs 16 (kyF bx y 0) := by have := keysF_row bx y 0; rwa [Nat.zero_mul] at this
theorem keysF_row0' : Bs 16 (keysF bx y) = Bs 16 (kyF bx y 0) := by have := keysF_row bx y 0; simpa only [Nat.zero_mul, Nat.zero_add] using this
end

theorem encS_ac {m : Nat} (h0 : 256 ≤ m) (h1 : m < 512) (r : Int) (bx mx : Nat → UInt8) {pl : Nat → UInt8} (hp : ∀ i, i < 16 → (pl i).toNat < 16) (y s : Nat → UInt8) {n : Nat} (hn : n ≤ 1000) (h : List Blk) :
    AC Tryz.prog 56 [.agg (Ci m bx mx pl r).toArray, .agg (Bs 16 y).toArray, .agg (Bs 16 s).toArray, .int .i64 n] h (.agg (Bs 16 (encF m bx mx pl y s n)).toArray) h := by
  have hk : ∀ h, AC Tryz.prog 88 [.agg (Ci m bx mx pl r).toArray, .agg (Bs 16 y).toArray, .int .i64 n] h (sl h.length 0 (n + 1) 16) (h ++ [⟨Bs ((n + 1) * 16) (keysF bx y), true⟩]) := fun h => keysS_ac m r bx mx pl y hn h
  (refine AC_begin (fun _ _ => Tryz.call56 _ _) Tryz.func56 rfl Tryz.ntmps56 Tryz.results56 (fun hwf => ?_); simp only [LCN, Nat.reduceAdd, Nat.reduceSub, List.replicate])
  (repeat (first | ((first | (refine And.intro ?_ ?_; focus exact PLA) | ((first | with_reducible apply callB_i | with_reducible apply callK_intro | with_reducible apply callQ_i); (focus (first | assumption | ((first | with_reducible apply hk | with_reducible apply xor16S_ac) <;> (first | assumption | rfl | (simp (disch := omega) only [go_sem]; first | done | rfl) | omega | decide | (simp; done))))); (try exact WP_au)) | refine WA_seq (WA_region ?_) | refine WA_region ?_ | refine WA_exit ?_); try simp (maxSteps := 1000000) (disch := first | omega | rfl | decide | (simp only [LX] <;> omega)) only [go_sem, Nat.reduceAdd, Int.reduceAdd, Int.reduceSub, Int.reduceMul, BNS, keysF_row0 bx y, keysF_row0' bx y, encP_zero m bx mx pl y s n]) | (refine (WA_rb (id := 2) [5] (SubM.refl _) mixedOk ?_); simp only [LSZ]; (repeat (first | ((first | (refine And.intro ?_ ?_; focus exact PLA) | ((first | with_reducible apply callB_i | with_reducible apply callK_intro | with_reducible apply callQ_i); (focus (first | assumption | ((first | with_reducible apply hk | with_reducible apply xor16S_ac) <;> (first | assumption | rfl | (simp (disch := omega) only [go_sem]; first | done | rfl) | omega | decide | (simp; done))))); (try exact WP_au)) | refine RTk false [1, 2] 4 ?_ | refine RTk true [0, 3, 4] 1 ?_ | refine REx 5 ?_ | refine RB_done (by decide +kernel) ?_); try simp (maxSteps := 1000000) (disch := first | omega | rfl | decide | (simp only [LX] <;> omega)) only [go_sem, Nat.reduceAdd, Int.reduceAdd, Int.reduceSub, Int.reduceMul, BNS, keysF_row0 bx y, keysF_row0' bx y, encP_zero m bx mx pl y s n])))) | refine WA_seq ?_ | refine WA_block ?_ | (refine WA_skip ?_; try simp only [go_sem]) | (refine WA_ret ?_; try simp only [go_sem]) | refine WA_ct rfl ?_ | refine WA_cf rfl ?_))
  refine WA_forP (fun k => [(10, .int .i64 ((k + 1 : Nat) : Int)), (20, J), (21, J), (22, J), (23, J), (24, J), (25, J), (26, J), (27, J), (28, J), (29, J), (30, J), (31, J), (32, J), (33, J), (34, J), (35, J), (36, J), (37, J), (38, J), (39, J), (40, J), (41, J), (42, J), (43, J), (44, J), (45, J), (46, J)]) (fun k => [(2, ⟨Bs 16 (encP m bx mx pl y s n k), true⟩)]) (n) ?_ ?_ ?_ <;> (try simp only [PTS])
  · (exact sS0)
  · intro j hj
    have hrow := keysF_row bx y (j + 1)
    by_cases hl : j + 1 < n
    · (repeat (first | ((first | (refine And.intro ?_ ?_; focus exact PLA) | ((first | with_reducible apply callB_i | with_reducible apply callK_intro | with_reducible apply callQ_i); (focus (first | assumption | ((first | with_reducible apply boxesS_ac | with_reducible apply moveS_ac hp | with_reducible apply mixS_ac h0 h1 | with_reducible apply xor16S_ac) <;> (first | assumption | rfl | (simp (disch := omega) only [go_sem]; first | done | rfl) | omega | decide | (simp; done))))); (try exact WP_au)) | refine WA_seq (WA_region ?_) | refine WA_region ?_ | refine WA_exit ?_); try simp (maxSteps := 1000000) (disch := first | omega | rfl | decide | (simp only [LX] <;> omega)) only [go_sem, Nat.reduceAdd, Int.reduceAdd, Int.reduceSub, Int.reduceMul, BNS, hrow, encP_mid m bx mx pl y s n hl]) | (refine (WA_rb (id := 6) [7] (SubM.refl _) mixedOk ?_); simp only [LSZ]; (repeat (first | ((first | (refine And.intro ?_ ?_; focus exact PLA) | ((first | with_reducible apply callB_i | with_reducible apply callK_intro | with_reducible apply callQ_i); (focus (first | assumption | ((first | with_reducible apply boxesS_ac | with_reducible apply moveS_ac hp | with_reducible apply mixS_ac h0 h1 | with_reducible apply xor16S_ac) <;> (first | assumption | rfl | (simp (disch := omega) only [go_sem]; first | done | rfl) | omega | decide | (simp; done))))); (try exact WP_au)) | refine RTk false [0, 2] 6 ?_ | refine RTk true [1, 3, 4, 5, 6] 1 ?_ | refine REx 7 ?_ | refine RB_done (by decide +kernel) ?_); try simp (maxSteps := 1000000) (disch := first | omega | rfl | decide | (simp only [LX] <;> omega)) only [go_sem, Nat.reduceAdd, Int.reduceAdd, Int.reduceSub, Int.reduceMul, BNS, hrow, encP_mid m bx mx pl y s n hl])))) | (refine (WA_rb (id := 9) [6] (SubM.refl _) mixedOk ?_); simp only [LSZ]; (repeat (first | ((first | (refine And.intro ?_ ?_; focus exact PLA) | ((first | with_reducible apply callB_i | with_reducible apply callK_intro | with_reducible apply callQ_i); (focus (first | assumption | ((first | with_reducible apply boxesS_ac | with_reducible apply moveS_ac hp | with_reducible apply mixS_ac h0 h1 | with_reducible apply xor16S_ac) <;> (first | assumption | rfl | (simp (disch := omega) only [go_sem]; first | done | rfl) | omega | decide | (simp; done))))); (try exact WP_au)) | refine RTk false [1, 2, 3] 4 ?_ | refine RTk true [0, 4, 5] 1 ?_ | refine REx 6 ?_ | refine RB_done (by decide +kernel) ?_); try simp (maxSteps := 1000000) (disch := first | omega | rfl | decide | (simp only [LX] <;> omega)) only [go_sem, Nat.reduceAdd, Int.reduceAdd, Int.reduceSub, Int.reduceMul, BNS, hrow, encP_mid m bx mx pl y s n hl])))) | refine WA_seq ?_ | refine WA_block ?_ | (refine WA_skip ?_; try simp only [go_sem]) | (refine WA_ret ?_; try simp only [go_sem]) | refine WA_ct rfl ?_ | refine WA_cf rfl ?_))
      (exact sS0)
    · (repeat (first | ((first | (refine And.intro ?_ ?_; focus exact PLA) | ((first | with_reducible apply callB_i | with_reducible apply callK_intro | with_reducible apply callQ_i); (focus (first | assumption | ((first | with_reducible apply boxesS_ac | with_reducible apply moveS_ac hp | with_reducible apply xor16S_ac) <;> (first | assumption | rfl | (simp (disch := omega) only [go_sem]; first | done | rfl) | omega | decide | (simp; done))))); (try exact WP_au)) | refine WA_seq (WA_region ?_) | refine WA_region ?_ | refine WA_exit ?_); try simp (maxSteps := 1000000) (disch := first | omega | rfl | decide | (simp only [LX] <;> omega)) only [go_sem, Nat.reduceAdd, Int.reduceAdd, Int.reduceSub, Int.reduceMul, BNS, hrow, encP_end m bx mx pl y s n (by omega : n ≤ j + 1)]) | (refine (WA_rb (id := 6) [7] (SubM.refl _) mixedOk ?_); simp only [LSZ]; (repeat (first | ((first | (refine And.intro ?_ ?_; focus exact PLA) | ((first | with_reducible apply callB_i | with_reducible apply callK_intro | with_reducible apply callQ_i); (focus (first | assumption | ((first | with_reducible apply boxesS_ac | with_reducible apply moveS_ac hp | with_reducible apply xor16S_ac) <;> (first | assumption | rfl | (simp (disch := omega) only [go_sem]; first | done | rfl) | omega | decide | (simp; done))))); (try exact WP_au)) | refine RTk false [0, 2] 6 ?_ | refine RTk true [1, 3, 4, 5, 6] 1 ?_ | refine REx 7 ?_ | refine RB_done (by decide +kernel) ?_); try simp (maxSteps := 1000000) (disch := first | omega | rfl | decide | (simp only [LX] <;> omega)) only [go_sem, Nat.reduceAdd, Int.reduceAdd, Int.reduceSub, Int.reduceMul, BNS, hrow, encP_end m bx mx pl y s n (by omega : n ≤ j + 1)])))) | (refine (WA_rb (id := 9) [6] (SubM.refl _) mixedOk ?_); simp only [LSZ]; (repeat (first | ((first | (refine And.intro ?_ ?_; focus exact PLA) | ((first | with_reducible apply callB_i | with_reducible apply callK_intro | with_reducible apply callQ_i); (focus (first | assumption | ((first | with_reducible apply boxesS_ac | with_reducible apply moveS_ac hp | with_reducible apply xor16S_ac) <;> (first | assumption | rfl | (simp (disch := omega) only [go_sem]; first | done | rfl) | omega | decide | (simp; done))))); (try exact WP_au)) | refine RTk false [1, 2, 3] 4 ?_ | refine RTk true [0, 4, 5] 1 ?_ | refine REx 6 ?_ | refine RB_done (by decide +kernel) ?_); try simp (maxSteps := 1000000) (disch := first | omega | rfl | decide | (simp only [LX] <;> omega)) only [go_sem, Nat.reduceAdd, Int.reduceAdd, Int.reduceSub, Int.reduceMul, BNS, hrow, encP_end m bx mx pl y s n (by omega : n ≤ j + 1)])))) | refine WA_seq ?_ | refine WA_block ?_ | (refine WA_skip ?_; try simp only [go_sem]) | (refine WA_ret ?_; try simp only [go_sem]) | refine WA_ct rfl ?_ | refine WA_cf rfl ?_))
      (exact sS0)
  · (refine sN0 ?_)
    (exact sR @encF.eq_1)

theorem encI_ac {m : Nat} {h : List Blk} {be bt bk : Nat} {bx ib pl ip mx y : Nat → UInt8} {v5 : Value} {r : Int} {re rt rk : Bool} (he : h[be]? = some ⟨En bx ib pl ip (pt bt 0) v5 r, re⟩) (ht : h[bt]? = some ⟨Bs 4096 (mixT m mx), rt⟩)
    {n : Nat} (hk : h[bk]? = some ⟨Bs ((n + 1) * 16) (keysF bx y), rk⟩) (hp : ∀ i, i < 16 → (pl i).toNat < 16) (hn : n ≤ 1000) (s : Nat → UInt8) :
    AC Tryz.prog 53 [pt be 0, sl bk 0 (n + 1) 16, .agg (Bs 16 s).toArray] h (.agg (Bs 16 (encF m bx mx pl y s n)).toArray) h := by
  have hbe := blt he
  have hbt := blt ht
  have hbk := blt hk
  (refine AC_begin (fun _ _ => Tryz.call53 _ _) Tryz.func53 rfl Tryz.ntmps53 Tryz.results53 (fun hwf => ?_); simp only [LCN, Nat.reduceAdd, Nat.reduceSub, List.replicate])
  (repeat (first | ((first | (refine And.intro ?_ ?_; focus exact PLA) | ((first | with_reducible apply callB_i | with_reducible apply callK_intro | with_reducible apply callQ_i); (focus (first | assumption | (with_reducible apply xor16I_ac <;> (first | assumption | rfl | (simp (disch := omega) only [go_sem]; first | done | rfl) | omega | decide | (simp; done))))); (try exact WP_au)) | refine WA_seq (WA_region ?_) | refine WA_region ?_ | refine WA_exit ?_); try simp (maxSteps := 1000000) (disch := first | omega | rfl | decide | (simp only [LX] <;> omega)) only [go_sem, Nat.reduceAdd, Int.reduceAdd, Int.reduceSub, Int.reduceMul, BNS, look_old hk, keysF_row0 bx y, keysF_row0' bx y, encP_zero m bx mx pl y s n]) | (refine (WA_rb (id := 1) [5] (SubM.refl _) mixedOk ?_); simp only [LSZ]; (repeat (first | ((first | (refine And.intro ?_ ?_; focus exact PLA) | ((first | with_reducible apply callB_i | with_reducible apply callK_intro | with_reducible apply callQ_i); (focus (first | assumption | (with_reducible apply xor16I_ac <;> (first | assumption | rfl | (simp (disch := omega) only [go_sem]; first | done | rfl) | omega | decide | (simp; done))))); (try exact WP_au)) | refine RTk false [1, 2] 4 ?_ | refine RTk true [0, 3, 4] 1 ?_ | refine REx 5 ?_ | refine RB_done (by decide +kernel) ?_); try simp (maxSteps := 1000000) (disch := first | omega | rfl | decide | (simp only [LX] <;> omega)) only [go_sem, Nat.reduceAdd, Int.reduceAdd, Int.reduceSub, Int.reduceMul, BNS, look_old hk, keysF_row0 bx y, keysF_row0' bx y, encP_zero m bx mx pl y s n])))) | refine WA_seq ?_ | refine WA_block ?_ | (refine WA_skip ?_; try simp only [go_sem]) | (refine WA_ret ?_; try simp only [go_sem]) | refine WA_ct rfl ?_ | refine WA_cf rfl ?_))
  refine WA_forP (fun k => [(7, .int .i64 ((k + 1 : Nat) : Int)), (8, J), (9, J), (15, J), (16, J), (17, J), (18, J), (19, J), (20, J), (21, J), (22, J), (23, J), (24, J), (25, J), (26, J), (27, J), (28, J), (29, J), (30, J), (31, J), (32, J), (33, J), (34, J), (35, J), (36, J), (37, J), (38, J), (39, J), (40, J), (41, J), (42, J), (43, J), (44, J), (45, J), (46, J), (47, J), (48, J), (49, J), (50, J), (51, J), (52, J), (53, J), (54, J), (55, J), (56, J), (57, J)]) (fun k => [(0, ⟨Bs 16 (encP m bx mx pl y s n k), true⟩)]) (n) ?_ ?_ ?_ <;> (try simp only [PTS])
  · (exact sS0)
  · intro j hj
    have hrow := keysF_row bx y (j + 1)
    (refine sN0 ?_)
    refine WA_forP (fun k => [(8, J), (9, J), (22, .int .i64 k), (23, J), (24, J), (25, J), (26, J), (27, J), (28, J), (29, J), (30, J), (31, J), (32, J), (33, J), (34, J)]) (fun k => [(0, ⟨Bs 16 (pre k (boxF bx (encP m bx mx pl y s n j)) (encP m bx mx pl y s n j)), true⟩)]) (16) ?_ ?_ ?_ <;> (try simp only [PTS])
    · rw [pre_zero]
      (exact sS0)
    · intro i hi
      have hx := u8_lt (encP m bx mx pl y s n j i)
      (refine sN (And.intro (look_old he) (And.intro @pre_self (And.intro @upd_pre (show bx (encP m bx mx pl y s n j i).toNat = boxF bx (encP m bx mx pl y s n j) i from rfl)))) ?_)
      (exact sS0)
    · rw [Bs_pre]
      by_cases hl : j + 1 < n
      · (repeat (first | ((first | (refine And.intro ?_ ?_; focus exact PLA) | ((first | with_reducible apply callB_i | with_reducible apply callK_intro | with_reducible apply callQ_i); (focus (first | assumption | ((first | with_reducible apply moveI_ac hp | with_reducible apply xor16I_ac) <;> (first | assumption | rfl | (simp (disch := omega) only [go_sem]; first | done | rfl) | omega | decide | (simp; done))) | (with_reducible apply mixM16_ac <;> (first | assumption | (refine look_old ?_ _; assumption) | rfl | (simp (disch := omega) only [go_sem]; first | done | rfl) | omega | decide | (simp; done))))); (try exact WP_au)) | refine WA_seq (WA_region ?_) | refine WA_region ?_ | refine WA_exit ?_); try simp (maxSteps := 1000000) (disch := first | omega | rfl | decide | (simp only [LX] <;> omega)) only [go_sem, Nat.reduceAdd, Int.reduceAdd, Int.reduceSub, Int.reduceMul, BNS, look_old he, look_old ht, look_old hk, hrow, encP_mid m bx mx pl y s n hl]) | (refine (WA_rb (id := 10) [6] (SubM.refl _) mixedOk ?_); simp only [LSZ]; (repeat (first | ((first | (refine And.intro ?_ ?_; focus exact PLA) | ((first | with_reducible apply callB_i | with_reducible apply callK_intro | with_reducible apply callQ_i); (focus (first | assumption | ((first | with_reducible apply moveI_ac hp | with_reducible apply xor16I_ac) <;> (first | assumption | rfl | (simp (disch := omega) only [go_sem]; first | done | rfl) | omega | decide | (simp; done))) | (with_reducible apply mixM16_ac <;> (first | assumption | (refine look_old ?_ _; assumption) | rfl | (simp (disch := omega) only [go_sem]; first | done | rfl) | omega | decide | (simp; done))))); (try exact WP_au)) | refine RTk false [0, 1, 2] 4 ?_ | refine RTk true [3, 4, 5] 1 ?_ | refine REx 6 ?_ | refine RB_done (by decide +kernel) ?_); try simp (maxSteps := 1000000) (disch := first | omega | rfl | decide | (simp only [LX] <;> omega)) only [go_sem, Nat.reduceAdd, Int.reduceAdd, Int.reduceSub, Int.reduceMul, BNS, look_old he, look_old ht, look_old hk, hrow, encP_mid m bx mx pl y s n hl])))) | (refine (WA_rb (id := 12) [5] (SubM.refl _) mixedOk ?_); simp only [LSZ]; (repeat (first | ((first | (refine And.intro ?_ ?_; focus exact PLA) | ((first | with_reducible apply callB_i | with_reducible apply callK_intro | with_reducible apply callQ_i); (focus (first | assumption | ((first | with_reducible apply moveI_ac hp | with_reducible apply xor16I_ac) <;> (first | assumption | rfl | (simp (disch := omega) only [go_sem]; first | done | rfl) | omega | decide | (simp; done))) | (with_reducible apply mixM16_ac <;> (first | assumption | (refine look_old ?_ _; assumption) | rfl | (simp (disch := omega) only [go_sem]; first | done | rfl) | omega | decide | (simp; done))))); (try exact WP_au)) | refine RTk false [0, 1, 2] 3 ?_ | refine RTk true [3, 4] 1 ?_ | refine REx 5 ?_ | refine RB_done (by decide +kernel) ?_); try simp (maxSteps := 1000000) (disch := first | omega | rfl | decide | (simp only [LX] <;> omega)) only [go_sem, Nat.reduceAdd, Int.reduceAdd, Int.reduceSub, Int.reduceMul, BNS, look_old he, look_old ht, look_old hk, hrow, encP_mid m bx mx pl y s n hl])))) | (refine (WA_rb (id := 13) [6] (SubM.refl _) mixedOk ?_); simp only [LSZ]; (repeat (first | ((first | (refine And.intro ?_ ?_; focus exact PLA) | ((first | with_reducible apply callB_i | with_reducible apply callK_intro | with_reducible apply callQ_i); (focus (first | assumption | ((first | with_reducible apply moveI_ac hp | with_reducible apply xor16I_ac) <;> (first | assumption | rfl | (simp (disch := omega) only [go_sem]; first | done | rfl) | omega | decide | (simp; done))) | (with_reducible apply mixM16_ac <;> (first | assumption | (refine look_old ?_ _; assumption) | rfl | (simp (disch := omega) only [go_sem]; first | done | rfl) | omega | decide | (simp; done))))); (try exact WP_au)) | refine RTk false [1, 2, 3] 4 ?_ | refine RTk true [0, 4, 5] 1 ?_ | refine REx 6 ?_ | refine RB_done (by decide +kernel) ?_); try simp (maxSteps := 1000000) (disch := first | omega | rfl | decide | (simp only [LX] <;> omega)) only [go_sem, Nat.reduceAdd, Int.reduceAdd, Int.reduceSub, Int.reduceMul, BNS, look_old he, look_old ht, look_old hk, hrow, encP_mid m bx mx pl y s n hl])))) | refine WA_seq ?_ | refine WA_block ?_ | (refine WA_skip ?_; try simp only [go_sem]) | (refine WA_ret ?_; try simp only [go_sem]) | refine WA_ct rfl ?_ | refine WA_cf rfl ?_))
        (exact sS0)
      · (repeat (first | ((first | (refine And.intro ?_ ?_; focus exact PLA) | ((first | with_reducible apply callB_i | with_reducible apply callK_intro | with_reducible apply callQ_i); (focus (first | assumption | ((first | with_reducible apply moveI_ac hp | with_reducible apply xor16I_ac) <;> (first | assumption | rfl | (simp (disch := omega) only [go_sem]; first | done | rfl) | omega | decide | (simp; done))) | (with_reducible apply mixM16_ac <;> (first | assumption | (refine look_old ?_ _; assumption) | rfl | (simp (disch := omega) only [go_sem]; first | done | rfl) | omega | decide | (simp; done))))); (try exact WP_au)) | refine WA_seq (WA_region ?_) | refine WA_region ?_ | refine WA_exit ?_); try simp (maxSteps := 1000000) (disch := first | omega | rfl | decide | (simp only [LX] <;> omega)) only [go_sem, Nat.reduceAdd, Int.reduceAdd, Int.reduceSub, Int.reduceMul, BNS, look_old he, look_old ht, look_old hk, hrow, encP_end m bx mx pl y s n (by omega : n ≤ j + 1)]) | (refine (WA_rb (id := 10) [6] (SubM.refl _) mixedOk ?_); simp only [LSZ]; (repeat (first | ((first | (refine And.intro ?_ ?_; focus exact PLA) | ((first | with_reducible apply callB_i | with_reducible apply callK_intro | with_reducible apply callQ_i); (focus (first | assumption | ((first | with_reducible apply moveI_ac hp | with_reducible apply xor16I_ac) <;> (first | assumption | rfl | (simp (disch := omega) only [go_sem]; first | done | rfl) | omega | decide | (simp; done))) | (with_reducible apply mixM16_ac <;> (first | assumption | (refine look_old ?_ _; assumption) | rfl | (simp (disch := omega) only [go_sem]; first | done | rfl) | omega | decide | (simp; done))))); (try exact WP_au)) | refine RTk false [0, 1, 2] 4 ?_ | refine RTk true [3, 4, 5] 1 ?_ | refine REx 6 ?_ | refine RB_done (by decide +kernel) ?_); try simp (maxSteps := 1000000) (disch := first | omega | rfl | decide | (simp only [LX] <;> omega)) only [go_sem, Nat.reduceAdd, Int.reduceAdd, Int.reduceSub, Int.reduceMul, BNS, look_old he, look_old ht, look_old hk, hrow, encP_end m bx mx pl y s n (by omega : n ≤ j + 1)])))) | (refine (WA_rb (id := 12) [5] (SubM.refl _) mixedOk ?_); simp only [LSZ]; (repeat (first | ((first | (refine And.intro ?_ ?_; focus exact PLA) | ((first | with_reducible apply callB_i | with_reducible apply callK_intro | with_reducible apply callQ_i); (focus (first | assumption | ((first | with_reducible apply moveI_ac hp | with_reducible apply xor16I_ac) <;> (first | assumption | rfl | (simp (disch := omega) only [go_sem]; first | done | rfl) | omega | decide | (simp; done))) | (with_reducible apply mixM16_ac <;> (first | assumption | (refine look_old ?_ _; assumption) | rfl | (simp (disch := omega) only [go_sem]; first | done | rfl) | omega | decide | (simp; done))))); (try exact WP_au)) | refine RTk false [0, 1, 2] 3 ?_ | refine RTk true [3, 4] 1 ?_ | refine REx 5 ?_ | refine RB_done (by decide +kernel) ?_); try simp (maxSteps := 1000000) (disch := first | omega | rfl | decide | (simp only [LX] <;> omega)) only [go_sem, Nat.reduceAdd, Int.reduceAdd, Int.reduceSub, Int.reduceMul, BNS, look_old he, look_old ht, look_old hk, hrow, encP_end m bx mx pl y s n (by omega : n ≤ j + 1)])))) | (refine (WA_rb (id := 13) [6] (SubM.refl _) mixedOk ?_); simp only [LSZ]; (repeat (first | ((first | (refine And.intro ?_ ?_; focus exact PLA) | ((first | with_reducible apply callB_i | with_reducible apply callK_intro | with_reducible apply callQ_i); (focus (first | assumption | ((first | with_reducible apply moveI_ac hp | with_reducible apply xor16I_ac) <;> (first | assumption | rfl | (simp (disch := omega) only [go_sem]; first | done | rfl) | omega | decide | (simp; done))) | (with_reducible apply mixM16_ac <;> (first | assumption | (refine look_old ?_ _; assumption) | rfl | (simp (disch := omega) only [go_sem]; first | done | rfl) | omega | decide | (simp; done))))); (try exact WP_au)) | refine RTk false [1, 2, 3] 4 ?_ | refine RTk true [0, 4, 5] 1 ?_ | refine REx 6 ?_ | refine RB_done (by decide +kernel) ?_); try simp (maxSteps := 1000000) (disch := first | omega | rfl | decide | (simp only [LX] <;> omega)) only [go_sem, Nat.reduceAdd, Int.reduceAdd, Int.reduceSub, Int.reduceMul, BNS, look_old he, look_old ht, look_old hk, hrow, encP_end m bx mx pl y s n (by omega : n ≤ j + 1)])))) | refine WA_seq ?_ | refine WA_block ?_ | (refine WA_skip ?_; try simp only [go_sem]) | (refine WA_ret ?_; try simp only [go_sem]) | refine WA_ct rfl ?_ | refine WA_cf rfl ?_))
        (exact sS0)
  · (refine sN0 ?_)
    (exact sR @encF.eq_1)

end Go.Proofs.YtenkjbkcdcionaaGreat
/- The code of a cipher and a number of rounds. -/
namespace Go.Proofs.YtenkjbkcdcionaaGreat
set_option linter.unusedSimpArgs false
set_option linter.unusedVariables false
set_option maxRecDepth 20000
set_option maxHeartbeats 1000000
open Go.Abs

def codeN (m : Int) (bx mx pl : Nat → UInt8) (r n : Int) : Int := cond (cipB m bx mx pl r) (cond (inR n 0 r) 0 2) 1
theorem codeN_bad {m : Int} {bx mx pl : Nat → UInt8} {r : Int} (hc : cipB m bx mx pl r = false) (n : Int) : codeN m bx mx pl r n = 1 := by unfold codeN; rw [hc]; rfl
theorem codeN_out {m : Int} {bx mx pl : Nat → UInt8} {r n : Int} (hc : cipB m bx mx pl r = true) (hi : inR n 0 r = false) : codeN m bx mx pl r n = 2 := by unfold codeN; rw [hc, hi]; rfl
theorem codeN_ok {m : Int} {bx mx pl : Nat → UInt8} {r n : Int} (hc : cipB m bx mx pl r = true) (hi : inR n 0 r = true) : codeN m bx mx pl r n = 0 := by unfold codeN; rw [hc, hi]; rfl
theorem codeS_ac (m : Int) (bx mx pl : Nat → UInt8) (r n : Int) (h : List Blk) : AC Tryz.prog 54 [.agg (Ci m bx mx pl r).toArray, .int .i64 n] h (.int .i64 (codeN m bx mx pl r n)) h := by
  have hi := inS_ac n 0 r
  cases hc : cipB m bx mx pl r
  · (refine AC_begin (fun _ _ => Tryz.call54 _ _) Tryz.func54 rfl Tryz.ntmps54 Tryz.results54 (fun hwf => ?_); simp only [LCN, Nat.reduceAdd, Nat.reduceSub, List.replicate])
    (refine sW @hc @cipS_ac ?_)
    (exact sR (codeN_bad hc))
  · cases hr : inR n 0 r <;> rw [hr] at hi
    · (refine AC_begin (fun _ _ => Tryz.call54 _ _) Tryz.func54 rfl Tryz.ntmps54 Tryz.results54 (fun hwf => ?_); simp only [LCN, Nat.reduceAdd, Nat.reduceSub, List.replicate])
      (refine sW @hc (And.intro @cipS_ac @hi) ?_)
      (exact sR (codeN_out hc hr))
    · (refine AC_begin (fun _ _ => Tryz.call54 _ _) Tryz.func54 rfl Tryz.ntmps54 Tryz.results54 (fun hwf => ?_); simp only [LCN, Nat.reduceAdd, Nat.reduceSub, List.replicate])
      (refine sW @hc (And.intro @cipS_ac @hi) ?_)
      (exact sR (codeN_ok hc hr))

theorem codeI_ac (m : Int) (bx mx pl : Nat → UInt8) (r n : Int) (h : List Blk) : AC Tryz.prog 50 [.agg (Ci m bx mx pl r).toArray, .int .i64 n] h (.int .i64 (codeN m bx mx pl r n)) h := by
  have hi := inI_ac n 0 r
  cases hc : cipB m bx mx pl r
  · (refine AC_begin (fun _ _ => Tryz.call50 _ _) Tryz.func50 rfl Tryz.ntmps50 Tryz.results50 (fun hwf => ?_); simp only [LCN, Nat.reduceAdd, Nat.reduceSub, List.replicate])
    (refine sW @hc @cipI_ac ?_)
    (exact sR (codeN_bad hc))
  · cases hr : inR n 0 r <;> rw [hr] at hi
    · (refine AC_begin (fun _ _ => Tryz.call50 _ _) Tryz.func50 rfl Tryz.ntmps50 Tryz.results50 (fun hwf => ?_); simp only [LCN, Nat.reduceAdd, Nat.reduceSub, List.replicate])
      (refine sW @hc (And.intro @cipI_ac @hi) ?_)
      (exact sR (codeN_out hc hr))
    · (refine AC_begin (fun _ _ => Tryz.call50 _ _) Tryz.func50 rfl Tryz.ntmps50 Tryz.results50 (fun hwf => ?_); simp only [LCN, Nat.reduceAdd, Nat.reduceSub, List.replicate])
      (refine sW @hc (And.intro @cipI_ac @hi) ?_)
      (exact sR (codeN_ok hc hr))

end Go.Proofs.YtenkjbkcdcionaaGreat
/- Draws for the law on trails. -/
namespace Go.Proofs.YtenkjbkcdcionaaGreat
set_option linter.unusedSimpArgs false
set_option linter.unusedVariables false
set_option maxRecDepth 20000
set_option maxHeartbeats 1000000
open Go.Abs

def catT (n : Nat) (f g : Nat → UInt8) : Nat → UInt8 := fun i => if i < n then f i else g (i - n)
theorem Bs_catT (n m : Nat) (f g : Nat → UInt8) : Bs n f ++ Bs m g = Bs (n + m) (catT n f g) := by
  apply List.ext_getElem?
  intro i
  rw [List.getElem?_append, Bs_length]
  by_cases h : i < n
  · rw [if_pos h, Bs_get h, Bs_get (by omega)]; simp [catT, h]
  · rw [if_neg h]
    by_cases h2 : i < n + m
    · rw [Bs_get (by omega), Bs_get h2]; simp [catT, h]
    · rw [List.getElem?_eq_none (by rw [Bs_length]; omega), List.getElem?_eq_none (by rw [Bs_length]; omega)]
theorem cat16 (k : Nat) (f g : Nat → UInt8) : Bs ((k + 1) * 16) f ++ Bs 16 g = Bs ((k + 1 + 1) * 16) (catT ((k + 1) * 16) f g) := by
  rw [Bs_catT, show (k + 1) * 16 + 16 = (k + 1 + 1) * 16 by omega]
theorem Bs_tail (q : Nat) (f : Nat → UInt8) : (Bs ((q + 1) * 16) f).drop 16 = Bs (q * 16) fun i => f (16 + i) := by
  apply List.ext_getElem?
  intro i
  rw [List.getElem?_drop]
  rcases Nat.lt_or_ge i (q * 16) with h | h
  · rw [Bs_get (by omega), Bs_get h]
  · rw [List.getElem?_eq_none (by rw [Bs_length]; omega), List.getElem?_eq_none (by rw [Bs_length]; omega)]
theorem pick_N {M : List Blk} {b : Nat} {cv : Value} (s : SrcAt M b cv) {bl n : Nat} {cs : List Value} {r : Bool} (hl : M[bl]? = some ⟨cs, r⟩) (hne : bl ≠ b) (hn : 0 < n) (hn2 : n ≤ 1000) (hcs : ∀ i, i < n → ∃ v, cs[i]? = some (.int .i64 v)) :
    ∃ (v : Int) (k k' : Blk) (M' : List Blk), M[b]? = some k ∧ k.rw = true ∧ M' = M.set b k' ∧ Aft M M' b cv ∧ AC Tryz.prog 35 [pt b 0, sl bl 0 n 1] (roBut b M) (.int .i64 v) ((roBut b M).set b k') := by
  obtain ⟨x, k, k', M', hx, hb, hr, e, a, c⟩ := next_N s (N := n) hn (by omega)
  obtain ⟨v, hv⟩ := hcs x hx
  refine ⟨v, k, k', M', hb, hr, e, a, ?_⟩
  have hl1 : ((roBut b M).set b k')[bl]? = some ⟨cs, false⟩ := by
    refine set_at ?_ (Ne.symm hne)
    unfold roBut
    rw [List.getElem?_set_ne (Ne.symm hne)]
    exact ro_of hl
  have hlen : (roBut b M).length ≤ ((roBut b M).set b k').length := by simp
  (refine AC_begin (fun _ _ => Tryz.call35 _ _) Tryz.func35 rfl Tryz.ntmps35 Tryz.results35 (fun hwf => ?_); simp only [LCN, Nat.reduceAdd, Nat.reduceSub, List.replicate])
  (refine sW (And.intro @hl1 @hv) @c ?_)
  refine ret_full (by first | exact .inr rfl | exact .inl rfl) hlen ?_
  simp (maxSteps := 1000000) (disch := first | omega | rfl | decide | (simp only [LX] <;> omega)) only [go_sem, Nat.reduceAdd, Int.reduceAdd, Int.reduceSub, Int.reduceMul, BNS]
  try rfl

set_option maxHeartbeats 8000000 in
theorem drBtr_op {h : List Blk} {cv : Value} (c : Cv h cv) : ∃ (m : Int) (bx mx pl d : Nat → UInt8) (r n : Int) (H : List Blk), (-1 ≤ r ∧ r ≤ 1000) ∧ (∃ A, H = h ++ A) ∧ Cv H cv ∧ AC Tryz.prog 9 [cv] h (.tuple #[.agg (Ci m bx mx pl r).toArray, .agg (Bs 16 d).toArray, .int .i64 n]) H := by
  obtain ⟨h1, s1, e1, c1⟩ := from_aft (c.app [⟨Ci 0 zeroF zeroF zeroF 0, true⟩, ⟨Bs 16 zeroF, true⟩])
  have hlA : (h ++ [(⟨Ci 0 zeroF zeroF zeroF 0, true⟩ : Blk), ⟨Bs 16 zeroF, true⟩]).length = h.length + 2 := by simp
  rw [hlA] at s1 c1
  have hl1 := s1.lt
  have hR0 : (h1)[h.length]? = some ⟨Ci 0 zeroF zeroF zeroF 0, true⟩ := by obtain ⟨L, rfl⟩ := e1; simp
  have hO0 : (h1)[h.length + 1]? = some ⟨Bs 16 zeroF, true⟩ := by obtain ⟨L, rfl⟩ := e1; simp
  obtain ⟨m, bx, mx, pl, d, r, h2, hr, a2, c2⟩ := l05Draw_aft s1
  have hl2 : h1.length ≤ h2.length := a2.len
  have a3 := a2.src.more [⟨Ci m bx mx pl r, true⟩, ⟨Bs 16 d, true⟩, ⟨[.int .i64 1, .int .i64 2, .int .i64 3, .int .i64 6, .int .i64 0, .int .i64 7], true⟩]
  obtain ⟨n, k4, k4', h4, hb4, hr4, g4, a4, c4⟩ := pick_N a3.src (bl := h2.length + 2) (n := 6) (cs := [.int .i64 1, .int .i64 2, .int .i64 3, .int .i64 6, .int .i64 0, .int .i64 7]) (r := true) (by simp) (by omega) (by omega) (by omega) (ints_at (by rfl) (by simp))
  have A := (a2.trans a3).trans a4
  have kc : (h2 ++ ([⟨Ci m bx mx pl r, true⟩, ⟨Bs 16 d, true⟩] : List Blk))[h2.length]? = some ⟨Ci m bx mx pl r, true⟩ := by simp
  have ky : (h2 ++ ([⟨Ci m bx mx pl r, true⟩, ⟨Bs 16 d, true⟩] : List Blk))[h2.length + 1]? = some ⟨Bs 16 d, true⟩ := by simp
  have q0 := set_at (x := dead) (set_at (x := dead) (set_at (x := dead) kc (show h.length ≠ h2.length by omega)) (show h.length + 1 ≠ h2.length by omega)) (show h.length + 2 ≠ h2.length by omega)
  have q1 := set_at (x := dead) (set_at (x := dead) (set_at (x := dead) ky (show h.length ≠ h2.length + 1 by omega)) (show h.length + 1 ≠ h2.length + 1 by omega)) (show h.length + 2 ≠ h2.length + 1 by omega)
  have lM : (h2 ++ ([⟨Ci m bx mx pl r, true⟩, ⟨Bs 16 d, true⟩] : List Blk)).length = h2.length + 2 := by simp
  have hR3 := A.keep _ _ (by omega) hR0
  have hO3 := A.keep _ _ (by omega) hO0
  have p0 : ((((h2 ++ ([⟨Ci m bx mx pl r, true⟩, ⟨Bs 16 d, true⟩] : List Blk)).set h.length dead).set (h.length + 1) dead).set (h.length + 2) dead)[h.length]? = some dead := set_at (set_at (look_set (by omega)) (by omega)) (by omega)
  have p1 : ((((h2 ++ ([⟨Ci m bx mx pl r, true⟩, ⟨Bs 16 d, true⟩] : List Blk)).set h.length dead).set (h.length + 1) dead).set (h.length + 2) dead)[h.length + 1]? = some dead := set_at (look_set (by simp only [List.length_set]; omega)) (by omega)
  have p3 : ((((h2 ++ ([⟨Ci m bx mx pl r, true⟩, ⟨Bs 16 d, true⟩] : List Blk)).set h.length dead).set (h.length + 1) dead).set (h.length + 2) dead)[h.length + 2]? = some dead := look_set (by simp only [List.length_set]; omega)
  have hO4 := set_at (x := ⟨Ci m bx mx pl r, true⟩) hO3 (show h.length ≠ h.length + 1 by omega)
  have hR5 := set_at (x := ⟨Bs 16 d, true⟩) (look_set (x := ⟨Ci m bx mx pl r, true⟩) (blt hR3)) (show h.length + 1 ≠ h.length by omega)
  have hlen : h.length ≤ h4.length := by have := A.len; omega
  have e : ∃ L, (h4.set h.length ⟨Ci m bx mx pl r, true⟩).set (h.length + 1) ⟨Bs 16 d, true⟩ = h ++ L := setX (setX (A.app h (by omega) (app_more e1)) (Nat.le_refl _) _) (by omega) _
  refine ⟨m, bx, mx, pl, d, r, n, _, hr, e, cv_app c e, ?_⟩
  (refine AC_begin (fun _ _ => Tryz.call9 _ _) Tryz.func9 rfl Tryz.ntmps9 Tryz.results9 (fun hwf => ?_); simp only [LCN, Nat.reduceAdd, Nat.reduceSub, List.replicate])
  (refine sW (And.intro @Ci_stC @Ci_splice_all) (And.intro @c1 @c2) ?_)
  first | refine WA_seq (WA_rb (id := 3) [6] (SubM.set (SubM.set (SubM.set (SubM.refl _) h.length) (h.length + 1)) (h.length + 2)) mixedOk ?_) | refine WA_rb (id := 3) [6] (SubM.set (SubM.set (SubM.set (SubM.refl _) h.length) (h.length + 1)) (h.length + 2)) mixedOk ?_
  simp only [LSZ]
  refine RTk false [2] 7 ?_
  (refine sU (And.intro @Ci_stC (And.intro @Ci_splice_all (And.intro @hR3 (And.intro @hO3 (And.intro @hO4 (And.intro @q0 (And.intro @q1 (And.intro @p0 @p1)))))))) ?_)
  refine RTk true [0, 1] 5 ?_
  (refine sU (And.intro @Ci_stC (And.intro @Ci_splice_all (And.intro @hR3 (And.intro @hO3 (And.intro @hO4 (And.intro @q0 (And.intro @q1 (And.intro @p0 @p1)))))))) ?_)
  refine RB_keep 3 _ (by rfl) (by decide +kernel) (by simp (maxSteps := 1000000) (disch := first | omega | rfl | decide | (simp only [List.length_cons, List.length_nil, List.length_append, Bs_length] <;> omega)) only [go_sem, Nat.reduceAdd, Ci_stC, Ci_splice_all, hR3, hO3, hO4, q0, q1, p0, p1]) ?_
  (refine sU (And.intro @Ci_stC (And.intro @Ci_splice_all (And.intro @hR3 (And.intro @hO3 (And.intro @hO4 (And.intro @q0 (And.intro @q1 (And.intro @p0 @p1)))))))) ?_)
  refine RB_keepN (h.length + 2) 4 3 (by rfl) (by decide +kernel) (by rw [p3]; exact rfl) ?_
  (refine sU (And.intro @Ci_stC (And.intro @Ci_splice_all (And.intro @hR3 (And.intro @hO3 (And.intro @hO4 (And.intro @q0 (And.intro @q1 (And.intro @p0 @p1)))))))) ?_)
  try simp only [List.append_assoc, List.cons_append, List.nil_append]
  refine callN_i hb4 hr4 c4 ?_
  rw [← g4]
  (refine sU (And.intro @Ci_stC (And.intro @Ci_splice_all (And.intro @hR3 (And.intro @hO3 (And.intro @hO4 (And.intro @q0 (And.intro @q1 (And.intro @p0 @p1)))))))) ?_)
  refine RB_keep 5 _ (by rfl) (by decide +kernel) (by simp (maxSteps := 1000000) (disch := first | omega | rfl | decide | (simp only [List.length_cons, List.length_nil, List.length_append, Bs_length] <;> omega)) only [go_sem, Nat.reduceAdd, Ci_stC, Ci_splice_all, hR3, hO3, hO4, q0, q1, p0, p1]) ?_
  (refine sU (And.intro @Ci_stC (And.intro @Ci_splice_all (And.intro @hR3 (And.intro @hO3 (And.intro @hO4 (And.intro @q0 (And.intro @q1 (And.intro @p0 @p1)))))))) ?_)
  refine REx 6 ?_
  (refine sU (And.intro @Ci_stC (And.intro @Ci_splice_all (And.intro @hR3 (And.intro @hO3 (And.intro @hO4 (And.intro @q0 (And.intro @q1 (And.intro @p0 @p1)))))))) ?_)
  refine RTk false [7] 0 ?_
  (refine sU (And.intro @Ci_stC (And.intro @Ci_splice_all (And.intro @hR3 (And.intro @hO3 (And.intro @hO4 (And.intro @q0 (And.intro @q1 (And.intro @p0 @p1)))))))) ?_)
  refine RB_done (by decide +kernel) ?_
  (refine sU (And.intro @Ci_stC (And.intro @Ci_splice_all (And.intro @hR3 (And.intro @hO3 (And.intro @hO4 (And.intro @q0 (And.intro @q1 (And.intro @p0 @p1)))))))) ?_)
  (refine sN0 ?_)
  refine ret_full (by first | exact .inr rfl | exact .inl rfl) (by simp only [List.length_set]; omega) ?_
  simp (maxSteps := 1000000) (disch := first | omega | rfl | decide | (simp only [LX] <;> omega)) only [go_sem, Nat.reduceAdd, Int.reduceAdd, Int.reduceSub, Int.reduceMul, BNS, hR5, look_set (blt hO4)]
  try rfl

theorem drPao_op {h : List Blk} {cv : Value} (c : Cv h cv) : ∃ (m : Int) (bx mx pl : Nat → UInt8) (r : Int) (H : List Blk), (-1 ≤ r ∧ r ≤ 1000) ∧ (∃ A, H = h ++ A) ∧ Cv H cv ∧ AC Tryz.prog 16 [cv] h (.agg (Ci m bx mx pl r).toArray) H := by
  obtain ⟨h1, s1, e1, c1⟩ := from_aft (c.app [⟨Ci 0 zeroF zeroF zeroF 0, true⟩])
  have hlA : (h ++ [(⟨Ci 0 zeroF zeroF zeroF 0, true⟩ : Blk)]).length = h.length + 1 := by simp
  rw [hlA] at s1 c1
  have hl1 := s1.lt
  have hR0 : (h1)[h.length]? = some ⟨Ci 0 zeroF zeroF zeroF 0, true⟩ := by obtain ⟨L, rfl⟩ := e1; simp
  obtain ⟨m, bx, mx, pl, r, h2, hr, a2, c2⟩ := l04Spoil_aft s1
  have hR3 := a2.keep _ _ (by omega) hR0
  have hlen : h.length ≤ h2.length := by have := a2.len; omega
  have e : ∃ L, h2.set h.length ⟨Ci m bx mx pl r, true⟩ = h ++ L := setX (a2.app h (by omega) (app_more e1)) (Nat.le_refl _) _
  refine ⟨m, bx, mx, pl, r, _, hr, e, cv_app c e, ?_⟩
  (refine AC_begin (fun _ _ => Tryz.call16 _ _) Tryz.func16 rfl Tryz.ntmps16 Tryz.results16 (fun hwf => ?_); simp only [LCN, Nat.reduceAdd, Nat.reduceSub, List.replicate])
  (refine sW (And.intro @Ci_stC (And.intro @Ci_splice_all @hR3)) (And.intro @c1 @c2) ?_)
  refine ret_full (by first | exact .inr rfl | exact .inl rfl) (by simpa using hlen) ?_
  simp (maxSteps := 1000000) (disch := first | omega | rfl | decide | (simp only [LX] <;> omega)) only [go_sem, Nat.reduceAdd, Int.reduceAdd, Int.reduceSub, Int.reduceMul, BNS, look_set (blt hR3)]
  try rfl

theorem drLac_op {h : List Blk} {cv : Value} (c : Cv h cv) : ∃ (m : Int) (bx mx pl : Nat → UInt8) (r n : Int) (H : List Blk), (-1 ≤ r ∧ r ≤ 1000) ∧ (∃ A, H = h ++ A) ∧ Cv H cv ∧ AC Tryz.prog 13 [cv] h (.tuple #[.agg (Ci m bx mx pl r).toArray, .int .i64 n]) H := by
  obtain ⟨h1, s1, e1, c1⟩ := from_aft (c.app [⟨Ci 0 zeroF zeroF zeroF 0, true⟩])
  have hlA : (h ++ [(⟨Ci 0 zeroF zeroF zeroF 0, true⟩ : Blk)]).length = h.length + 1 := by simp
  rw [hlA] at s1 c1
  have hl1 := s1.lt
  have hR0 : (h1)[h.length]? = some ⟨Ci 0 zeroF zeroF zeroF 0, true⟩ := by obtain ⟨L, rfl⟩ := e1; simp
  obtain ⟨m, bx, mx, pl, r, h2, hr, a2, c2⟩ := l04Spoil_aft s1
  obtain ⟨n, h3, _, a3, c3⟩ := pickL_aft a2.src [.int .i64 1, .int .i64 2, .int .i64 3, .int .i64 4, .int .i64 0, .int .i64 7] (n := 6) rfl rfl (by omega) (by omega)
  have hR3 := (a2.trans a3).keep _ _ (by omega) hR0
  have hlen : h.length ≤ h3.length := by have := (a2.trans a3).len; omega
  have e : ∃ L, h3.set h.length ⟨Ci m bx mx pl r, true⟩ = h ++ L := setX ((a2.trans a3).app h (by omega) (app_more e1)) (Nat.le_refl _) _
  refine ⟨m, bx, mx, pl, r, n, _, hr, e, cv_app c e, ?_⟩
  (refine AC_begin (fun _ _ => Tryz.call13 _ _) Tryz.func13 rfl Tryz.ntmps13 Tryz.results13 (fun hwf => ?_); simp only [LCN, Nat.reduceAdd, Nat.reduceSub, List.replicate])
  (refine sW (And.intro @Ci_stC (And.intro @Ci_splice_all @hR3)) (And.intro @c1 (And.intro @c2 @c3)) ?_)
  refine ret_full (by first | exact .inr rfl | exact .inl rfl) (by simpa using hlen) ?_
  simp (maxSteps := 1000000) (disch := first | omega | rfl | decide | (simp only [LX] <;> omega)) only [go_sem, Nat.reduceAdd, Int.reduceAdd, Int.reduceSub, Int.reduceMul, BNS, look_set (blt hR3)]
  try rfl

structure TrD where
  M : List Blk
  b : Nat
  d : Nat → UInt8
  f : Nat → UInt8
theorem drTrc_loop (G : (Nat → UInt8) → Bool → Nat → UInt8) {m r : Int} {bx mx pl : Nat → UInt8} {h h1 h2 h4 : List Blk} {cv : Value} {n q p : Nat} {d : Nat → UInt8} (s1 : SrcAt h1 (h.length + 1) cv)
    (i1 : h4[p]? = some ⟨Bs 16 d, true⟩) (i2 : h4[h2.length + 1]? = some ⟨Bs 16 d, true⟩) (i3 : h4[h2.length]? = some ⟨Ci m bx mx pl r, true⟩) (i5 : h4[h.length]? = some ⟨Ci 0 zeroF zeroF zeroF 0, true⟩) (i7 : Aft h1 h4 (h.length + 1) cv) (hl : h.length + 2 ≤ h2.length) (hl1 : h1.length ≤ h2.length) (hp : h2.length + 2 ≤ p) :
    ∃ st : Nat → TrD, st 0 = ⟨h4, p, d, d⟩ ∧ (∀ k, k ≤ q → (st k).M[(st k).b]? = some ⟨Bs ((k + 1) * 16) (st k).f, true⟩ ∧ (st k).M[h2.length + 1]? = some ⟨Bs 16 (st k).d, true⟩ ∧ (st k).M[h2.length]? = some ⟨Ci m bx mx pl r, true⟩ ∧ (st k).M[h.length]? = some ⟨Ci 0 zeroF zeroF zeroF 0, true⟩ ∧ Aft h1 (st k).M (h.length + 1) cv ∧ h2.length + 2 ≤ (st k).b) ∧
      ∀ k, k < q → st (k + 1) = ⟨((st k).M.set (h2.length + 1) ⟨Bs 16 (G (st k).d (k + 1 == n)), true⟩).set (st k).b dead ++ ([⟨Bs 16 (G (st k).d (k + 1 == n)), true⟩, ⟨Bs ((k + 1 + 1) * 16) (catT ((k + 1) * 16) (st k).f (G (st k).d (k + 1 == n))), true⟩] : List Blk), (st k).M.length + 1, G (st k).d (k + 1 == n), catT ((k + 1) * 16) (st k).f (G (st k).d (k + 1 == n))⟩ :=
  seq_ex (S := TrD) (n := q)
    (I := fun k t => t.M[t.b]? = some ⟨Bs ((k + 1) * 16) t.f, true⟩ ∧ t.M[h2.length + 1]? = some ⟨Bs 16 t.d, true⟩ ∧ t.M[h2.length]? = some ⟨Ci m bx mx pl r, true⟩ ∧ t.M[h.length]? = some ⟨Ci 0 zeroF zeroF zeroF 0, true⟩ ∧ Aft h1 t.M (h.length + 1) cv ∧ h2.length + 2 ≤ t.b)
    (R := fun k t u => u = ⟨(t.M.set (h2.length + 1) ⟨Bs 16 (G t.d (k + 1 == n)), true⟩).set t.b dead ++ ([⟨Bs 16 (G t.d (k + 1 == n)), true⟩, ⟨Bs ((k + 1 + 1) * 16) (catT ((k + 1) * 16) t.f (G t.d (k + 1 == n))), true⟩] : List Blk), t.M.length + 1, G t.d (k + 1 == n), catT ((k + 1) * 16) t.f (G t.d (k + 1 == n))⟩)
    ⟨h4, p, d, d⟩ ⟨i1, i2, i3, i5, i7, hp⟩ (fun k hk t0 ⟨i1, i2, i3, i5, i7, i8⟩ => by
      have lb := blt i1
      generalize G t0.d (k + 1 == n) = e
      have hN := (i7.set s1 (i := h2.length + 1) (by omega) ⟨Bs 16 e, true⟩).set s1 (i := t0.b) (by omega) dead
      have hM := hN.trans (hN.src.more [⟨Bs 16 e, true⟩, ⟨Bs ((k + 1 + 1) * 16) (catT ((k + 1) * 16) t0.f e), true⟩])
      have up : ∀ (q : Nat) (x : Blk), q ≠ t0.b → q ≠ h2.length + 1 → t0.M[q]? = some x → ((t0.M.set (h2.length + 1) ⟨Bs 16 e, true⟩).set t0.b dead ++ ([⟨Bs 16 e, true⟩, ⟨Bs ((k + 1 + 1) * 16) (catT ((k + 1) * 16) t0.f e), true⟩] : List Blk))[q]? = some x := fun q x h1 h2 hx => look_old (set_at (set_at hx (Ne.symm h2)) (Ne.symm h1)) _
      refine ⟨_, ⟨?_, ?_, ?_, ?_, ?_, ?_⟩, rfl⟩
      · show ((t0.M.set (h2.length + 1) _).set t0.b dead ++ [_, _])[t0.M.length + 1]? = _
        rw [List.getElem?_append_right (by simp), List.length_set, List.length_set]
        simp
      · exact look_old (set_at (look_set (blt i2)) (show t0.b ≠ h2.length + 1 by omega)) _
      · exact up _ _ (by omega) (by omega) i3
      · exact up _ _ (by omega) (by omega) i5
      · exact hM
      · show h2.length + 2 ≤ t0.M.length + 1
        omega)
attribute [local irreducible] layF bsF catT
set_option maxHeartbeats 16000000 in
theorem drTrc_op {h : List Blk} {cv : Value} (c : Cv h cv) : ∃ (m : Int) (bx mx pl f : Nat → UInt8) (r : Int) (n b : Nat) (rb : Bool) (H : List Blk), (-1 ≤ r ∧ r ≤ 1000) ∧ n ≤ 4 ∧ H[b]? = some ⟨Bs (n * 16) f, rb⟩ ∧ (∃ A, H = h ++ A) ∧ Cv H cv ∧ AC Tryz.prog 5 [cv] h (.tuple #[.agg (Ci m bx mx pl r).toArray, sl b 0 n 16]) H := by
  obtain ⟨h1, s1, e1, c1⟩ := from_aft (c.app [⟨Ci 0 zeroF zeroF zeroF 0, true⟩])
  have hlA : (h ++ [(⟨Ci 0 zeroF zeroF zeroF 0, true⟩ : Blk)]).length = h.length + 1 := by simp
  rw [hlA] at s1 c1
  have hl1 := s1.lt
  have hR0 : (h1)[h.length]? = some ⟨Ci 0 zeroF zeroF zeroF 0, true⟩ := by obtain ⟨L, rfl⟩ := e1; simp
  obtain ⟨m, bx, mx, pl, d, r, h2, hr, a2, c2⟩ := l05Draw_aft s1
  have hl2 : h1.length ≤ h2.length := a2.len
  have a3 := a2.src.more [⟨Ci m bx mx pl r, true⟩, ⟨Bs 16 d, true⟩]
  obtain ⟨x, h3, hx, a4, c3⟩ := next_aft a3.src (N := 3) (by omega) (by omega)
  have hl3 : h2.length + 2 ≤ h3.length := by have := a4.len; simpa using this
  have kc := a4.keep h2.length ⟨Ci m bx mx pl r, true⟩ (by omega) (by simp)
  have ky := a4.keep (h2.length + 1) ⟨Bs 16 d, true⟩ (by omega) (by simp)
  have a5 := a4.src.more [⟨Bs 16 d, true⟩]
  have A5 := ((a2.trans a3).trans a4).trans a5
  have kR := A5.keep _ _ (by omega) hR0
  obtain ⟨q, hq⟩ : ∃ q, (cipB m bx mx pl r = false ∧ q = 0) ∨ (cipB m bx mx pl r = true ∧ q = x + 1) := by
    cases hc : cipB m bx mx pl r
    · exact ⟨0, .inl ⟨rfl, rfl⟩⟩
    · exact ⟨x + 1, .inr ⟨rfl, rfl⟩⟩
  have hq3 : q ≤ 3 := by omega
  have hqx : q ≤ x + 1 := by omega
  have hB : ∀ k, k < q → cipB m bx mx pl r = true ∧ ∀ d last H, AC Tryz.prog 28 [.agg (Ci m bx mx pl r).toArray, .agg (Bs 16 d).toArray, .bool last] H (.agg (Bs 16 (layF m.toNat mx pl (bsF bx d) last)).toArray) H := fun k hk => by
    rcases hq with ⟨_, e⟩ | ⟨hc, _⟩
    · omega
    · refine ⟨hc, fun d last H => ?_⟩
      obtain ⟨p, rfl, h0, h1, _, _, hp, _⟩ := cipB_nat hc
      exact bestS_ac h0 h1 r bx mx (fun i hi => plOk_lt hp hi) d last H
  obtain ⟨G, hG⟩ : ∃ G : (Nat → UInt8) → Bool → Nat → UInt8, G = fun d last => layF m.toNat mx pl (bsF bx d) last := ⟨_, rfl⟩
  have hB' : ∀ k, k < q → cipB m bx mx pl r = true ∧ ∀ d last H, AC Tryz.prog 28 [.agg (Ci m bx mx pl r).toArray, .agg (Bs 16 d).toArray, .bool last] H (.agg (Bs 16 (G d last)).toArray) H := by rw [hG]; exact hB
  clear hB hG
  obtain ⟨st, e0, hI, hRt⟩ := drTrc_loop (q := q) (n := 1 + x) (h4 := h3 ++ [⟨Bs 16 d, true⟩]) (p := h3.length) G s1 (by simp) (look_old ky _) (look_old kc _) kR A5 (by omega) hl2 hl3
  obtain ⟨f1, f2, f3, f4, f5, f6⟩ := hI q (Nat.le_refl _)
  obtain ⟨Mq, hMq⟩ : ∃ Mq, Mq = (st q).M := ⟨_, rfl⟩
  obtain ⟨bq, hbq⟩ : ∃ bq, bq = (st q).b := ⟨_, rfl⟩
  obtain ⟨fq, hfq⟩ : ∃ fq, fq = (st q).f := ⟨_, rfl⟩
  rw [← hMq, ← hbq, ← hfq] at f1
  rw [← hMq] at f2 f3 f4 f5
  rw [← hbq] at f6
  obtain ⟨y, h5, hy, a6, c6⟩ := next_aft f5.src (N := 8) (by omega) (by omega)
  have A6 := f5.trans a6
  have gb := a6.keep _ _ (by omega) f1
  have gC := a6.keep _ _ (by omega) f3
  have gR := a6.keep _ _ (by omega) f4
  have lgb := blt gb
  have lgR := blt gR
  have hlen : h.length ≤ h5.length := by omega
  have eA := A6.app h (by omega) (app_more e1)
  obtain ⟨fz, hfz⟩ : ∃ fz, fz = upd fq (q * 16) (fq (q * 16) + 1) := ⟨_, rfl⟩
  have gR2 := set_at (x := ⟨Bs ((q + 1) * 16) fz, true⟩) gR (show bq ≠ h.length by omega)
  have gC2 := set_at (x := ⟨Bs ((q + 1) * 16) fz, true⟩) gC (show bq ≠ h2.length by omega)
  obtain ⟨v, Hf, hy3⟩ : ∃ (v : Value) (Hf : List Blk), (y = 0 ∧ v = sl bq 0 (q + 1) 16 ∧ Hf = (h5.set bq ⟨Bs ((q + 1) * 16) fz, true⟩).set h.length ⟨Ci m bx mx pl r, true⟩) ∨ (y = 1 ∧ v = sl bq 16 q 16 ∧ Hf = h5.set h.length ⟨Ci m bx mx pl r, true⟩) ∨ (((y == 0) = false ∧ (y == 1) = false) ∧ v = sl bq 0 (q + 1) 16 ∧ Hf = h5.set h.length ⟨Ci m bx mx pl r, true⟩) := by
    by_cases h0 : y = 0
    · exact ⟨_, _, .inl ⟨h0, rfl, rfl⟩⟩
    · by_cases h1 : y = 1
      · exact ⟨_, _, .inr (.inl ⟨h1, rfl, rfl⟩)⟩
      · exact ⟨_, _, .inr (.inr ⟨⟨by simpa using h0, by simpa using h1⟩, rfl, rfl⟩)⟩
  have hA : AC Tryz.prog 5 [cv] h (.tuple #[.agg (Ci m bx mx pl r).toArray, v]) Hf := by
    (refine AC_begin (fun _ _ => Tryz.call5 _ _) Tryz.func5 rfl Tryz.ntmps5 Tryz.results5 (fun hwf => ?_); simp only [LCN, Nat.reduceAdd, Nat.reduceSub, List.replicate])
    (refine sW (And.intro @Ci_stC (And.intro @Ci_splice_all (And.intro @ky (And.intro @lit1 (@yieldA_at 3 25))))) (And.intro @c1 (And.intro @c2 @c3)) ?_)
    refine WA_forH (fun k => [(8, sl (st k).b 0 (k + 1) 16), (9, .int .i64 ((k + 1 : Nat) : Int)), (22, J), (23, J), (24, J), (25, J), (26, J), (27, J), (28, J), (29, J), (30, J), (31, J), (32, J), (33, J), (34, J), (35, J), (36, J), (37, J), (38, J), (39, J), (40, J)]) (fun k => (st k).M) (q) ?_ ?_ ?_ <;> (try simp only [PTS])
    · have z0 : (st 0).M = h3 ++ [⟨Bs 16 d, true⟩] := by rw [e0]
      have z1 : (st 0).b = h3.length := by rw [e0]
      have nl : h.length ≤ (h3 ++ [(⟨Bs 16 d, true⟩ : Blk)]).length := by simp; omega
      rw [z0, z1]
      (exact sA0)
    · intro k hk
      obtain ⟨i1, i2, i3, i4, i5, i6⟩ := hI k (by omega)
      obtain ⟨hc, hb⟩ := hB' k hk
      have e := hRt k hk
      have z1 := (hI (k + 1) hk).2.2.2.2.1.len
      have q3 : h.length ≤ (st (k + 1)).M.length := by omega
      rw [e] at q3 ⊢
      have lb := blt i1
      have j2 := look_set (x := ⟨Bs 16 (G (st k).d (k + 1 == 1 + x)), true⟩) (blt i2)
      have j1 := set_at (x := ⟨Bs 16 (G (st k).d (k + 1 == 1 + x)), true⟩) i1 (show h2.length + 1 ≠ (st k).b by omega)
      (refine sW (And.intro @i2 (And.intro @i3 (And.intro @hc (And.intro @j1 (And.intro @j2 (And.intro (look_old j1) (And.intro (look_old j2) (And.intro (set_app (blt j1)) (And.intro @lit1 (And.intro @cat16 (And.intro (decide_eq_true (show k + 1 ≤ 1 + x by omega)) (@yieldA_at 3 25)))))))))))) (And.intro @cipS_ac @hb) ?_)
      try simp only [List.append_assoc, List.cons_append, List.nil_append, List.length_set]
      (exact sA0)
    · rw [← hMq, ← hbq]
      have hq9 : (cipB m bx mx pl r = false ∧ decide (q + 1 ≤ 1 + x) = true) ∨ (cipB m bx mx pl r = true ∧ decide (q + 1 ≤ 1 + x) = false) := by
        rcases hq with ⟨hc, hq0⟩ | ⟨hc, hq0⟩
        · exact .inl ⟨hc, decide_eq_true (by omega)⟩
        · exact .inr ⟨hc, decide_eq_false (by omega)⟩
      rcases hy3 with ⟨rfl, rfl, rfl⟩ | ⟨rfl, rfl, rfl⟩ | ⟨⟨y0, y1⟩, rfl, rfl⟩
      · rcases hq9 with ⟨hc, hle⟩ | ⟨hc, hle⟩
        all_goals (repeat (first | ((first | (refine And.intro ?_ ?_; focus exact PLA) | ((first | with_reducible apply callB_i | with_reducible apply callK_intro | with_reducible apply callQ_i); (focus (first | assumption | ((first | with_reducible apply cipS_ac | with_reducible apply c6) <;> (first | assumption | rfl | (simp (disch := omega) only [go_sem]; first | done | rfl) | omega | decide | (simp; done))))); (try exact WP_au)) | refine WA_seq (WA_region ?_) | refine WA_region ?_ | refine WA_exit ?_); try simp (maxSteps := 1000000) (disch := first | omega | rfl | decide | (simp only [LX] <;> omega)) only [go_sem, Nat.reduceAdd, Int.reduceAdd, Int.reduceSub, Int.reduceMul, BNS, f3, hc, hle, gb, gC, gR, gR2, gC2, ← hfz, beq_self_eq_true, Ci_stC, Ci_splice_all, Nat.add_sub_cancel, yieldA_at 3 25]) | (refine (WA_rb (id := 12) [10] (SubM.refl _) mixedOk ?_); simp only [LSZ]; (repeat (first | ((first | (refine And.intro ?_ ?_; focus exact PLA) | ((first | with_reducible apply callB_i | with_reducible apply callK_intro | with_reducible apply callQ_i); (focus (first | assumption | ((first | with_reducible apply cipS_ac | with_reducible apply c6) <;> (first | assumption | rfl | (simp (disch := omega) only [go_sem]; first | done | rfl) | omega | decide | (simp; done))))); (try exact WP_au)) | refine RTk false [0, 1, 2, 3, 4, 5, 8] 4 ?_ | refine RTk true [6] 3 ?_ | refine RTk false [7, 9] 1 ?_ | refine REx 10 ?_ | refine RB_done (by decide +kernel) ?_); try simp (maxSteps := 1000000) (disch := first | omega | rfl | decide | (simp only [LX] <;> omega)) only [go_sem, Nat.reduceAdd, Int.reduceAdd, Int.reduceSub, Int.reduceMul, BNS, f3, hc, hle, gb, gC, gR, gR2, gC2, ← hfz, beq_self_eq_true, Ci_stC, Ci_splice_all, Nat.add_sub_cancel, yieldA_at 3 25])))) | refine WA_seq ?_ | refine WA_block ?_ | (refine WA_skip ?_; try simp only [go_sem]) | (refine WA_ret ?_; try simp only [go_sem]) | refine WA_ct rfl ?_ | refine WA_cf rfl ?_))
        all_goals refine ret_full (by first | exact .inr rfl | exact .inl rfl) (by simp only [List.length_set]; omega) ?_
        all_goals simp (maxSteps := 1000000) (disch := first | omega | rfl | decide | (simp only [LX] <;> omega)) only [go_sem, Nat.reduceAdd, Int.reduceAdd, Int.reduceSub, Int.reduceMul, BNS, look_set (blt gR2)]
        all_goals try rfl
      · rcases hq9 with ⟨hc, hle⟩ | ⟨hc, hle⟩
        all_goals (repeat (first | ((first | (refine And.intro ?_ ?_; focus exact PLA) | ((first | with_reducible apply callB_i | with_reducible apply callK_intro | with_reducible apply callQ_i); (focus (first | assumption | ((first | with_reducible apply cipS_ac | with_reducible apply c6) <;> (first | assumption | rfl | (simp (disch := omega) only [go_sem]; first | done | rfl) | omega | decide | (simp; done))))); (try exact WP_au)) | refine WA_seq (WA_region ?_) | refine WA_region ?_ | refine WA_exit ?_); try simp (maxSteps := 1000000) (disch := first | omega | rfl | decide | (simp only [LX] <;> omega)) only [go_sem, Nat.reduceAdd, Int.reduceAdd, Int.reduceSub, Int.reduceMul, BNS, f3, hc, hle, gb, gC, gR, beq_self_eq_true, show ((1 : Nat) == 0) = false from rfl, Ci_stC, Ci_splice_all, Nat.add_sub_cancel, yieldA_at 3 25]) | refine WA_seq ?_ | refine WA_block ?_ | (refine WA_skip ?_; try simp only [go_sem]) | (refine WA_ret ?_; try simp only [go_sem]) | refine WA_ct rfl ?_ | refine WA_cf rfl ?_))
        all_goals refine ret_full (by first | exact .inr rfl | exact .inl rfl) (by simp only [List.length_set]; omega) ?_
        all_goals simp (maxSteps := 1000000) (disch := first | omega | rfl | decide | (simp only [LX] <;> omega)) only [go_sem, Nat.reduceAdd, Int.reduceAdd, Int.reduceSub, Int.reduceMul, BNS, look_set lgR]
        all_goals try rfl
      · rcases hq9 with ⟨hc, hle⟩ | ⟨hc, hle⟩
        all_goals (repeat (first | ((first | (refine And.intro ?_ ?_; focus exact PLA) | ((first | with_reducible apply callB_i | with_reducible apply callK_intro | with_reducible apply callQ_i); (focus (first | assumption | ((first | with_reducible apply cipS_ac | with_reducible apply c6) <;> (first | assumption | rfl | (simp (disch := omega) only [go_sem]; first | done | rfl) | omega | decide | (simp; done))))); (try exact WP_au)) | refine WA_seq (WA_region ?_) | refine WA_region ?_ | refine WA_exit ?_); try simp (maxSteps := 1000000) (disch := first | omega | rfl | decide | (simp only [LX] <;> omega)) only [go_sem, Nat.reduceAdd, Int.reduceAdd, Int.reduceSub, Int.reduceMul, BNS, f3, hc, hle, gb, gC, gR, y0, y1, Ci_stC, Ci_splice_all, yieldA_at 3 25]) | refine WA_seq ?_ | refine WA_block ?_ | (refine WA_skip ?_; try simp only [go_sem]) | (refine WA_ret ?_; try simp only [go_sem]) | refine WA_ct rfl ?_ | refine WA_cf rfl ?_))
        all_goals refine ret_full (by first | exact .inr rfl | exact .inl rfl) (by simp only [List.length_set]; omega) ?_
        all_goals simp (maxSteps := 1000000) (disch := first | omega | rfl | decide | (simp only [LX] <;> omega)) only [go_sem, Nat.reduceAdd, Int.reduceAdd, Int.reduceSub, Int.reduceMul, BNS, look_set lgR]
        all_goals try rfl
  rcases hy3 with ⟨_, rfl, rfl⟩ | ⟨_, rfl, rfl⟩ | ⟨_, rfl, rfl⟩
  · have e : ∃ L, (h5.set bq ⟨Bs ((q + 1) * 16) fz, true⟩).set h.length ⟨Ci m bx mx pl r, true⟩ = h ++ L := setX (setX eA (by omega) _) (Nat.le_refl _) _
    exact ⟨m, bx, mx, pl, fz, r, q + 1, bq, true, _, hr, by omega, set_at (look_set lgb) (show h.length ≠ bq by omega), e, cv_app c e, hA⟩
  · have e : ∃ L, (h5.set h.length ⟨Ci m bx mx pl r, true⟩) = h ++ L := setX eA (Nat.le_refl _) _
    have gb2 := set_at (x := ⟨Ci m bx mx pl r, true⟩) gb (show h.length ≠ bq by omega)
    have e2 : ∃ L, (h5.set h.length ⟨Ci m bx mx pl r, true⟩).set bq ⟨Bs ((q + 1) * 16) fq, false⟩ ++ ([⟨(Bs ((q + 1) * 16) fq).drop 16, false⟩] : List Blk) = h ++ L := app_app (setX e (by omega) _)
    refine ⟨m, bx, mx, pl, fun i => fq (16 + i), r, q, (h5.set h.length ⟨Ci m bx mx pl r, true⟩).length, false, _, hr, by omega, ?_, e2, cv_app c e2, AC_view rfl gb2 (by rw [Bs_length]; omega) hA⟩
    rw [List.getElem?_append_right (by simp)]
    simp [Bs_tail]
  · have e : ∃ L, (h5.set h.length ⟨Ci m bx mx pl r, true⟩) = h ++ L := setX eA (Nat.le_refl _) _
    exact ⟨m, bx, mx, pl, fq, r, q + 1, bq, true, _, hr, by omega, set_at gb (show h.length ≠ bq by omega), e, cv_app c e, hA⟩

theorem ares_sev {P : Program} {s : AS} {r1 r2 r3 r4 r5 r6 r7 : ResultVar} {v1 v2 v3 v4 v5 v6 v7 : Value} (h1 : ares1 P s r1 = some v1) (h2 : ares1 P s r2 = some v2) (h3 : ares1 P s r3 = some v3) (h4 : ares1 P s r4 = some v4) (h5 : ares1 P s r5 = some v5) (h6 : ares1 P s r6 = some v6) (h7 : ares1 P s r7 = some v7)
    (t1 : isTup v1 = false) (t2 : isTup v2 = false) (t3 : isTup v3 = false) (t4 : isTup v4 = false) (t5 : isTup v5 = false) (t6 : isTup v6 = false) (t7 : isTup v7 = false) : aresults P [r1, r2, r3, r4, r5, r6, r7] s = some (.tuple #[v1, v2, v3, v4, v5, v6, v7]) := by
  unfold aresults
  simp [mapO, h1, h2, h3, h4, h5, h6, h7, t1, t2, t3, t4, t5, t6, t7]
theorem dead6 {M : List Blk} {a x : Nat} {k : Blk} (hx : M[x]? = some k) (hne : a + 5 < x) : ((((((M.set a dead).set (a + 1) dead).set (a + 2) dead).set (a + 3) dead).set (a + 4) dead).set (a + 5) dead)[x]? = some k :=
  set_at (set_at (set_at (set_at (set_at (set_at hx (by omega)) (by omega)) (by omega)) (by omega)) (by omega)) (by omega)
theorem dead6_at {M : List Blk} {a : Nat} (hl : a + 5 < M.length) : ∀ i, i ≤ 5 → ((((((M.set a dead).set (a + 1) dead).set (a + 2) dead).set (a + 3) dead).set (a + 4) dead).set (a + 5) dead)[a + i]? = some dead
  | 0, _ => set_at (set_at (set_at (set_at (set_at (look_set (by omega)) (by omega)) (by omega)) (by omega)) (by omega)) (by omega)
  | 1, _ => set_at (set_at (set_at (set_at (look_set (by simp only [List.length_set]; omega)) (by omega)) (by omega)) (by omega)) (by omega)
  | 2, _ => set_at (set_at (set_at (look_set (by simp only [List.length_set]; omega)) (by omega)) (by omega)) (by omega)
  | 3, _ => set_at (set_at (look_set (by simp only [List.length_set]; omega)) (by omega)) (by omega)
  | 4, _ => set_at (look_set (by simp only [List.length_set]; omega)) (by omega)
  | 5, _ => look_set (by simp only [List.length_set]; omega)
  | n + 6, h => absurd h (by omega)
theorem dead6_0 {M : List Blk} {a : Nat} (hl : a + 5 < M.length) : ((((((M.set a dead).set (a + 1) dead).set (a + 2) dead).set (a + 3) dead).set (a + 4) dead).set (a + 5) dead)[a]? = some dead := dead6_at hl 0 (by omega)
set_option maxHeartbeats 16000000 in
theorem drPai_op {h : List Blk} {cv : Value} (c : Cv h cv) : ∃ (m : Int) (bx mx pl y s d e : Nat → UInt8) (r i n : Int) (H : List Blk), (-1 ≤ r ∧ r ≤ 1000) ∧ (∃ A, H = h ++ A) ∧ Cv H cv ∧ AC Tryz.prog 20 [cv] h (.tuple #[.agg (Ci m bx mx pl r).toArray, .agg (Bs 16 y).toArray, .agg (Bs 16 s).toArray, .int .i64 i, .agg (Bs 16 d).toArray, .agg (Bs 16 e).toArray, .int .i64 n]) H := by
  obtain ⟨h1, s1, e1, c1⟩ := from_aft (c.app [⟨Ci 0 zeroF zeroF zeroF 0, true⟩, ⟨Bs 16 zeroF, true⟩, ⟨Bs 16 zeroF, true⟩, ⟨Bs 16 zeroF, true⟩, ⟨Bs 16 zeroF, true⟩])
  have hlA : (h ++ [(⟨Ci 0 zeroF zeroF zeroF 0, true⟩ : Blk), ⟨Bs 16 zeroF, true⟩, ⟨Bs 16 zeroF, true⟩, ⟨Bs 16 zeroF, true⟩, ⟨Bs 16 zeroF, true⟩]).length = h.length + 5 := by simp
  rw [hlA] at s1 c1
  have hl1 := s1.lt
  have hR0 : (h1)[h.length]? = some ⟨Ci 0 zeroF zeroF zeroF 0, true⟩ := by obtain ⟨L, rfl⟩ := e1; simp
  have hO0 : ∀ i, 1 ≤ i → i ≤ 4 → (h1)[h.length + i]? = some ⟨Bs 16 zeroF, true⟩ := fun i hi1 hi4 => by
    obtain ⟨L, rfl⟩ := e1
    rcases (show i = 1 ∨ i = 2 ∨ i = 3 ∨ i = 4 by omega) with rfl | rfl | rfl | rfl <;> simp
  have v1 : Cv h1 cv := cv_app c (app_more e1)
  obtain ⟨m, bx, mx, pl, y, s, r, h2, hr, e2, v2, c2⟩ := three_op v1
  have a2 : Aft h1 h2 (h.length + 5) cv := by obtain ⟨L, rfl⟩ := e2; exact s1.more L
  have l2 : h1.length ≤ h2.length := a2.len
  have a3 := a2.src.more [⟨Ci m bx mx pl r, true⟩, ⟨Bs 16 y, true⟩, ⟨Bs 16 s, true⟩]
  obtain ⟨i0, h3, hi0, a4, c3⟩ := next_aft a3.src (N := 16) (by omega) (by omega)
  have l3 : h2.length + 3 ≤ h3.length := by have := a4.len; simpa using this
  have a5 := a4.src.more [⟨Bs 16 zeroF, true⟩]
  obtain ⟨z, h4, hz, a6, c4⟩ := next_aft a5.src (N := 255) (by omega) (by omega)
  have A6 := (((a2.trans a3).trans a4).trans a5).trans a6
  have kd4 : h4[h3.length]? = some ⟨Bs 16 zeroF, true⟩ := a6.keep h3.length _ (by omega) (by simp)
  have l4 := blt kd4
  obtain ⟨d, hd⟩ : ∃ d, d = upd zeroF i0 (UInt8.ofNat (1 + z)) := ⟨_, rfl⟩
  have A7 := A6.set s1 (i := h3.length) (by omega) ⟨Bs 16 d, true⟩
  obtain ⟨n0, h5, hn0, a8, c5⟩ := next_aft A7.src (N := 3) (by omega) (by omega)
  have A8 := A7.trans a8
  have up : ∀ i x, i ≠ h3.length → i ≠ h.length + 5 → h3[i]? = some x → h5[i]? = some x := fun i x g1 g2 hx => a8.keep _ _ g2 (set_at (a6.keep _ _ g2 (look_old hx _)) (Ne.symm g1))
  have kc := up h2.length ⟨Ci m bx mx pl r, true⟩ (by omega) (by omega) (a4.keep _ _ (by omega) (by simp))
  have ky := up (h2.length + 1) ⟨Bs 16 y, true⟩ (by omega) (by omega) (a4.keep _ _ (by omega) (by simp))
  have ks := up (h2.length + 2) ⟨Bs 16 s, true⟩ (by omega) (by omega) (a4.keep _ _ (by omega) (by simp))
  have kd : h5[h3.length]? = some ⟨Bs 16 d, true⟩ := a8.keep _ _ (by omega) (look_set l4)
  have l5 := blt kd
  have wz : (1 : Int) + (z : Int) = ((1 + z : Nat) : Int) := by omega
  obtain ⟨e, n, he⟩ : ∃ (e : Nat → UInt8) (n : Int), ((cipB m bx mx pl r = false ∧ e = d ∧ n = n0) ∨ (cipB m bx mx pl r = true ∧ n0 = 0 ∧ e = d ∧ n = n0) ∨ (cipB m bx mx pl r = true ∧ 0 < n0 ∧ e = layF m.toNat mx pl (bsF bx d) (n0 == 1) ∧ n = if r < (n0 : Int) then r else n0)) := by
    cases hc : cipB m bx mx pl r
    · exact ⟨_, _, .inl ⟨rfl, rfl, rfl⟩⟩
    · rcases Nat.eq_zero_or_pos n0 with h0 | h0
      · exact ⟨_, _, .inr (.inl ⟨rfl, h0, rfl, rfl⟩)⟩
      · exact ⟨_, _, .inr (.inr ⟨rfl, h0, rfl, rfl⟩)⟩
  have a9 := a8.src.more [⟨Bs 16 e, true⟩]
  obtain ⟨x, k4, k4', h6, hx, hb4, hr4, g4, a10, c6⟩ := next_N a9.src (N := 30) (by omega) (by omega)
  have A9 := A8.trans a9
  have A10 := A9.trans a10
  have wi : IntKind.i64.wrap ((i0 : Int) - ((x / 29 : Nat) : Int) * 20) = (i0 : Int) - ((x / 29 : Nat) : Int) * 20 := wrap_i64 (by omega) (by omega)
  have wi2 : IntKind.i64.wrap (((x / 29 : Nat) : Int) * 20) = ((x / 29 : Nat) : Int) * 20 := wrap_i64 (by omega) (by omega)
  have lM : (h5 ++ ([⟨Bs 16 e, true⟩] : List Blk)).length = h5.length + 1 := by simp
  have p := dead6_at (M := h5 ++ ([⟨Bs 16 e, true⟩] : List Blk)) (a := h.length) (by omega)
  have p0 := dead6_0 (M := h5 ++ ([⟨Bs 16 e, true⟩] : List Blk)) (a := h.length) (by omega)
  have p1 := p 1 (by omega)
  have p2 := p 2 (by omega)
  have p3 := p 3 (by omega)
  have p4 := p 4 (by omega)
  have p5 := p 5 (by omega)
  have q0 := dead6 (a := h.length) (look_old kc [⟨Bs 16 e, true⟩]) (by omega)
  have q1 := dead6 (a := h.length) (look_old ky [⟨Bs 16 e, true⟩]) (by omega)
  have q2 := dead6 (a := h.length) (look_old ks [⟨Bs 16 e, true⟩]) (by omega)
  have q3 := dead6 (a := h.length) (look_old kd [⟨Bs 16 e, true⟩]) (by omega)
  have q4 := dead6 (a := h.length) (show (h5 ++ ([⟨Bs 16 e, true⟩] : List Blk))[h5.length]? = some ⟨Bs 16 e, true⟩ by simp) (by omega)
  have hR3 := A10.keep _ _ (by omega) hR0
  have hO3 := fun i g1 g4 => A10.keep _ _ (by omega) (hO0 i g1 g4)
  have s1' := set_at (x := ⟨Ci m bx mx pl r, true⟩) (hO3 1 (by omega) (by omega)) (show h.length ≠ h.length + 1 by omega)
  have s2' := set_at (x := ⟨Bs 16 y, true⟩) (set_at (x := ⟨Ci m bx mx pl r, true⟩) (hO3 2 (by omega) (by omega)) (show h.length ≠ h.length + 2 by omega)) (show h.length + 1 ≠ h.length + 2 by omega)
  have s3' := set_at (x := ⟨Bs 16 s, true⟩) (set_at (x := ⟨Bs 16 y, true⟩) (set_at (x := ⟨Ci m bx mx pl r, true⟩) (hO3 3 (by omega) (by omega)) (show h.length ≠ h.length + 3 by omega)) (show h.length + 1 ≠ h.length + 3 by omega)) (show h.length + 2 ≠ h.length + 3 by omega)
  have s4' := set_at (x := ⟨Bs 16 d, true⟩) (set_at (x := ⟨Bs 16 s, true⟩) (set_at (x := ⟨Bs 16 y, true⟩) (set_at (x := ⟨Ci m bx mx pl r, true⟩) (hO3 4 (by omega) (by omega)) (show h.length ≠ h.length + 4 by omega)) (show h.length + 1 ≠ h.length + 4 by omega)) (show h.length + 2 ≠ h.length + 4 by omega)) (show h.length + 3 ≠ h.length + 4 by omega)
  obtain ⟨Hf, hHf⟩ : ∃ Hf, Hf = ((((h6.set h.length ⟨Ci m bx mx pl r, true⟩).set (h.length + 1) ⟨Bs 16 y, true⟩).set (h.length + 2) ⟨Bs 16 s, true⟩).set (h.length + 3) ⟨Bs 16 d, true⟩).set (h.length + 4) ⟨Bs 16 e, true⟩ := ⟨_, rfl⟩
  have r0 : Hf[h.length]? = some ⟨Ci m bx mx pl r, true⟩ := by
    rw [hHf]; exact set_at (set_at (set_at (set_at (look_set (blt hR3)) (by omega)) (by omega)) (by omega)) (by omega)
  have r1 : Hf[h.length + 1]? = some ⟨Bs 16 y, true⟩ := by
    rw [hHf]; exact set_at (set_at (set_at (look_set (blt s1')) (by omega)) (by omega)) (by omega)
  have r2 : Hf[h.length + 2]? = some ⟨Bs 16 s, true⟩ := by
    rw [hHf]; exact set_at (set_at (look_set (blt s2')) (by omega)) (by omega)
  have r3 : Hf[h.length + 3]? = some ⟨Bs 16 d, true⟩ := by
    rw [hHf]; exact set_at (look_set (blt s3')) (by omega)
  have r4 : Hf[h.length + 4]? = some ⟨Bs 16 e, true⟩ := by
    rw [hHf]; exact look_set (blt s4')
  have hlen : h.length ≤ Hf.length := by have := A10.len; rw [hHf]; simp only [List.length_set]; omega
  have ex : ∃ L, Hf = h ++ L := by rw [hHf]; exact setX (setX (setX (setX (setX (A10.app h (by omega) (app_more e1)) (Nat.le_refl _) _) (by omega) _) (by omega) _) (by omega) _) (by omega) _
  refine ⟨m, bx, mx, pl, y, s, d, e, r, (i0 : Int) - ((x / 29 : Nat) : Int) * 20, n, Hf, hr, ex, cv_app c ex, ?_⟩
  (refine AC_begin (fun _ _ => Tryz.call20 _ _) Tryz.func20 rfl Tryz.ntmps20 Tryz.results20 (fun hwf => ?_); simp only [LCN, Nat.reduceAdd, Nat.reduceSub, List.replicate])
  (repeat (first | ((first | (refine And.intro ?_ ?_; focus exact PLA) | ((first | with_reducible apply callB_i | with_reducible apply callK_intro | with_reducible apply callQ_i); (focus (first | assumption | ((first | with_reducible apply c1 | with_reducible apply c2 | with_reducible apply c3 | with_reducible apply c4 | with_reducible apply c5) <;> (first | assumption | rfl | (simp (disch := omega) only [go_sem]; first | done | rfl) | omega | decide | (simp; done))))); (try exact WP_au)) | refine WA_seq (WA_region (id := 0) ?_) | refine WA_region (id := 0) ?_ | refine WA_seq (WA_region (id := 1) ?_) | refine WA_region (id := 1) ?_ | refine WA_seq (WA_region (id := 2) ?_) | refine WA_region (id := 2) ?_ | refine WA_seq (WA_region (id := 3) ?_) | refine WA_region (id := 3) ?_ | refine WA_seq (WA_region (id := 4) ?_) | refine WA_region (id := 4) ?_ | refine WA_seq (WA_region (id := 5) ?_) | refine WA_region (id := 5) ?_ | refine WA_seq (WA_region (id := 6) ?_) | refine WA_region (id := 6) ?_ | refine WA_exit ?_); try simp (maxSteps := 1000000) (disch := first | omega | rfl | decide | (simp only [LX] <;> omega)) only [go_sem, Nat.reduceAdd, Int.reduceAdd, Int.reduceSub, Int.reduceMul, BNS, Ci_stC, Ci_splice_all, kd4, wz, ← hd, lit1, kd, yieldA_at 2 39]) | refine WA_seq ?_ | refine WA_block ?_ | (refine WA_skip ?_; try simp only [go_sem]) | (refine WA_ret ?_; try simp only [go_sem]) | refine WA_ct rfl ?_ | refine WA_cf rfl ?_))
  have nl : h.length ≤ (h5 ++ [(⟨Bs 16 e, true⟩ : Blk)]).length := by simp; omega
  refine WA_mid2 [(15, .int .i64 n), (16, pt h5.length 0), (37, J), (38, J), (39, J), (40, J), (41, J), (42, J), (43, J), (44, J), (45, J), (46, J), (47, J), (48, J), (49, J), (50, J), (51, J)] (h5 ++ [⟨Bs 16 e, true⟩]) ?_ ?_ <;> (try simp only [PTS])
  · rcases he with ⟨hc, rfl, rfl⟩ | ⟨hc, h0, rfl, rfl⟩ | ⟨hc, h0, he, hn⟩
    · (refine sW (And.intro @kc (And.intro @kd (And.intro @hc (And.intro (look_old kc) (And.intro (look_old kd) (@yieldA_at 2 39)))))) @cipS_ac ?_)
      (exact sA0)
    · have g0 : decide (0 < n0) = false := decide_eq_false (by omega)
      (refine sW (And.intro @kc (And.intro @kd (And.intro @hc (And.intro (look_old kc) (And.intro (look_old kd) (And.intro @g0 (@yieldA_at 2 39))))))) @cipS_ac ?_)
      (exact sA0)
    · have hb : ∀ d last H, AC Tryz.prog 28 [.agg (Ci m bx mx pl r).toArray, .agg (Bs 16 d).toArray, .bool last] H (.agg (Bs 16 (layF m.toNat mx pl (bsF bx d) last)).toArray) H := fun d last H => by
        obtain ⟨p, rfl, h0, h1, _, _, hp, _⟩ := cipB_nat hc
        exact bestS_ac h0 h1 r bx mx (fun i hi => plOk_lt hp hi) d last H
      have g0 : decide (0 < n0) = true := decide_eq_true h0
      (repeat (first | ((first | (refine And.intro ?_ ?_; focus exact PLA) | ((first | with_reducible apply callB_i | with_reducible apply callK_intro | with_reducible apply callQ_i); (focus (first | assumption | ((first | with_reducible apply cipS_ac | with_reducible apply hb) <;> (first | assumption | rfl | (simp (disch := omega) only [go_sem]; first | done | rfl) | omega | decide | (simp; done))))); (try exact WP_au)) | refine WA_seq (WA_region ?_) | refine WA_region ?_ | refine WA_exit ?_); try simp (maxSteps := 1000000) (disch := first | omega | rfl | decide | (simp only [LX] <;> omega)) only [go_sem, Nat.reduceAdd, Int.reduceAdd, Int.reduceSub, Int.reduceMul, BNS, kc, kd, hc, look_old kc, look_old kd, g0, ← he, ← hn, Ci_g2, Ci_l261, yieldA_at 2 39]) | refine WA_seq ?_ | refine WA_block ?_ | (refine WA_skip ?_; try simp only [go_sem]) | (refine WA_ret ?_; try simp only [go_sem]) | refine WA_ct rfl ?_ | refine WA_cf rfl ?_))
      (exact sA0)
  first | refine WA_seq (WA_rb (id := 10) [17] (SubM.set (SubM.set (SubM.set (SubM.set (SubM.set (SubM.set (SubM.refl _) h.length) (h.length + 1)) (h.length + 2)) (h.length + 3)) (h.length + 4)) (h.length + 5)) mixedOk ?_) | refine WA_rb (id := 10) [17] (SubM.set (SubM.set (SubM.set (SubM.set (SubM.set (SubM.set (SubM.refl _) h.length) (h.length + 1)) (h.length + 2)) (h.length + 3)) (h.length + 4)) (h.length + 5)) mixedOk ?_
  simp only [LSZ]
  refine RTk false [3, 4, 11] 16 ?_
  (refine sU (And.intro @Ci_stC (And.intro @Ci_splice_all (And.intro @wi (And.intro @wi2 (And.intro @hR3 (And.intro @s1' (And.intro @s2' (And.intro @s3' (And.intro @s4' (And.intro @q0 (And.intro @q1 (And.intro @q2 (And.intro @q3 (And.intro @q4 (And.intro @p0 (And.intro @p1 (And.intro @p2 (And.intro @p3 (And.intro @p4 @p5))))))))))))))))))) ?_)
  refine RTk true [0, 1, 2, 9, 10] 11 ?_
  (refine sU (And.intro @Ci_stC (And.intro @Ci_splice_all (And.intro @wi (And.intro @wi2 (And.intro @hR3 (And.intro @s1' (And.intro @s2' (And.intro @s3' (And.intro @s4' (And.intro @q0 (And.intro @q1 (And.intro @q2 (And.intro @q3 (And.intro @q4 (And.intro @p0 (And.intro @p1 (And.intro @p2 (And.intro @p3 (And.intro @p4 @p5))))))))))))))))))) ?_)
  refine RB_keepN (h.length + 5) 5 10 (by rfl) (by decide +kernel) (by rw [p5]; exact rfl) ?_
  (refine sU (And.intro @Ci_stC (And.intro @Ci_splice_all (And.intro @wi (And.intro @wi2 (And.intro @hR3 (And.intro @s1' (And.intro @s2' (And.intro @s3' (And.intro @s4' (And.intro @q0 (And.intro @q1 (And.intro @q2 (And.intro @q3 (And.intro @q4 (And.intro @p0 (And.intro @p1 (And.intro @p2 (And.intro @p3 (And.intro @p4 @p5))))))))))))))))))) ?_)
  refine callN_i hb4 hr4 c6 ?_
  rw [← g4]
  (refine sU (And.intro @Ci_stC (And.intro @Ci_splice_all (And.intro @wi (And.intro @wi2 (And.intro @hR3 (And.intro @s1' (And.intro @s2' (And.intro @s3' (And.intro @s4' (And.intro @q0 (And.intro @q1 (And.intro @q2 (And.intro @q3 (And.intro @q4 (And.intro @p0 (And.intro @p1 (And.intro @p2 (And.intro @p3 (And.intro @p4 @p5))))))))))))))))))) ?_)
  refine RTk false [6, 7, 8] 7 ?_
  (refine sU (And.intro @Ci_stC (And.intro @Ci_splice_all (And.intro @wi (And.intro @wi2 (And.intro @hR3 (And.intro @s1' (And.intro @s2' (And.intro @s3' (And.intro @s4' (And.intro @q0 (And.intro @q1 (And.intro @q2 (And.intro @q3 (And.intro @q4 (And.intro @p0 (And.intro @p1 (And.intro @p2 (And.intro @p3 (And.intro @p4 @p5))))))))))))))))))) ?_)
  refine RB_keep 12 _ (by rfl) (by decide +kernel) (by simp (maxSteps := 1000000) (disch := first | omega | rfl | decide | (simp only [List.length_cons, List.length_nil, List.length_append, Bs_length] <;> omega)) only [go_sem, Nat.reduceAdd, Ci_stC, Ci_splice_all, wi, wi2, hR3, s1', s2', s3', s4', q0, q1, q2, q3, q4, p0, p1, p2, p3, p4, p5]) ?_
  (refine sU (And.intro @Ci_stC (And.intro @Ci_splice_all (And.intro @wi (And.intro @wi2 (And.intro @hR3 (And.intro @s1' (And.intro @s2' (And.intro @s3' (And.intro @s4' (And.intro @q0 (And.intro @q1 (And.intro @q2 (And.intro @q3 (And.intro @q4 (And.intro @p0 (And.intro @p1 (And.intro @p2 (And.intro @p3 (And.intro @p4 @p5))))))))))))))))))) ?_)
  refine RB_keep 13 _ (by rfl) (by decide +kernel) (by simp (maxSteps := 1000000) (disch := first | omega | rfl | decide | (simp only [List.length_cons, List.length_nil, List.length_append, Bs_length] <;> omega)) only [go_sem, Nat.reduceAdd, Ci_stC, Ci_splice_all, wi, wi2, hR3, s1', s2', s3', s4', q0, q1, q2, q3, q4, p0, p1, p2, p3, p4, p5]) ?_
  (refine sU (And.intro @Ci_stC (And.intro @Ci_splice_all (And.intro @wi (And.intro @wi2 (And.intro @hR3 (And.intro @s1' (And.intro @s2' (And.intro @s3' (And.intro @s4' (And.intro @q0 (And.intro @q1 (And.intro @q2 (And.intro @q3 (And.intro @q4 (And.intro @p0 (And.intro @p1 (And.intro @p2 (And.intro @p3 (And.intro @p4 @p5))))))))))))))))))) ?_)
  refine RB_keep 14 _ (by rfl) (by decide +kernel) (by simp (maxSteps := 1000000) (disch := first | omega | rfl | decide | (simp only [List.length_cons, List.length_nil, List.length_append, Bs_length] <;> omega)) only [go_sem, Nat.reduceAdd, Ci_stC, Ci_splice_all, wi, wi2, hR3, s1', s2', s3', s4', q0, q1, q2, q3, q4, p0, p1, p2, p3, p4, p5]) ?_
  (refine sU (And.intro @Ci_stC (And.intro @Ci_splice_all (And.intro @wi (And.intro @wi2 (And.intro @hR3 (And.intro @s1' (And.intro @s2' (And.intro @s3' (And.intro @s4' (And.intro @q0 (And.intro @q1 (And.intro @q2 (And.intro @q3 (And.intro @q4 (And.intro @p0 (And.intro @p1 (And.intro @p2 (And.intro @p3 (And.intro @p4 @p5))))))))))))))))))) ?_)
  refine RTk false [15] 3 ?_
  (refine sU (And.intro @Ci_stC (And.intro @Ci_splice_all (And.intro @wi (And.intro @wi2 (And.intro @hR3 (And.intro @s1' (And.intro @s2' (And.intro @s3' (And.intro @s4' (And.intro @q0 (And.intro @q1 (And.intro @q2 (And.intro @q3 (And.intro @q4 (And.intro @p0 (And.intro @p1 (And.intro @p2 (And.intro @p3 (And.intro @p4 @p5))))))))))))))))))) ?_)
  refine RB_keep 16 _ (by rfl) (by decide +kernel) (by simp (maxSteps := 1000000) (disch := first | omega | rfl | decide | (simp only [List.length_cons, List.length_nil, List.length_append, Bs_length] <;> omega)) only [go_sem, Nat.reduceAdd, Ci_stC, Ci_splice_all, wi, wi2, hR3, s1', s2', s3', s4', q0, q1, q2, q3, q4, p0, p1, p2, p3, p4, p5]) ?_
  (refine sU (And.intro @Ci_stC (And.intro @Ci_splice_all (And.intro @wi (And.intro @wi2 (And.intro @hR3 (And.intro @s1' (And.intro @s2' (And.intro @s3' (And.intro @s4' (And.intro @q0 (And.intro @q1 (And.intro @q2 (And.intro @q3 (And.intro @q4 (And.intro @p0 (And.intro @p1 (And.intro @p2 (And.intro @p3 (And.intro @p4 @p5))))))))))))))))))) ?_)
  refine REx 17 ?_
  (refine sU (And.intro @Ci_stC (And.intro @Ci_splice_all (And.intro @wi (And.intro @wi2 (And.intro @hR3 (And.intro @s1' (And.intro @s2' (And.intro @s3' (And.intro @s4' (And.intro @q0 (And.intro @q1 (And.intro @q2 (And.intro @q3 (And.intro @q4 (And.intro @p0 (And.intro @p1 (And.intro @p2 (And.intro @p3 (And.intro @p4 @p5))))))))))))))))))) ?_)
  refine RTk false [18] 0 ?_
  (refine sU (And.intro @Ci_stC (And.intro @Ci_splice_all (And.intro @wi (And.intro @wi2 (And.intro @hR3 (And.intro @s1' (And.intro @s2' (And.intro @s3' (And.intro @s4' (And.intro @q0 (And.intro @q1 (And.intro @q2 (And.intro @q3 (And.intro @q4 (And.intro @p0 (And.intro @p1 (And.intro @p2 (And.intro @p3 (And.intro @p4 @p5))))))))))))))))))) ?_)
  refine RB_done (by decide +kernel) ?_
  (refine sU (And.intro @Ci_stC (And.intro @Ci_splice_all (And.intro @wi (And.intro @wi2 (And.intro @hR3 (And.intro @s1' (And.intro @s2' (And.intro @s3' (And.intro @s4' (And.intro @q0 (And.intro @q1 (And.intro @q2 (And.intro @q3 (And.intro @q4 (And.intro @p0 (And.intro @p1 (And.intro @p2 (And.intro @p3 (And.intro @p4 @p5))))))))))))))))))) ?_)
  (refine sN (@yieldA_at 2 39) ?_)
  rw [← hHf]
  refine ret_full (by first | exact .inr rfl | exact .inl rfl) hlen ?_
  refine ares_sev ?_ ?_ ?_ ?_ ?_ ?_ ?_ rfl rfl rfl rfl rfl rfl rfl
  all_goals try simp (maxSteps := 1000000) (disch := first | omega | rfl | decide | (simp only [LX] <;> omega)) only [go_sem, Nat.reduceAdd, Int.reduceAdd, Int.reduceSub, Int.reduceMul, BNS, r0, r1, r2, r3, r4]
  all_goals try rfl

end Go.Proofs.YtenkjbkcdcionaaGreat
/- Counts of trails: both sides. -/
namespace Go.Proofs.YtenkjbkcdcionaaGreat
set_option linter.unusedSimpArgs false
set_option linter.unusedVariables false
set_option maxRecDepth 20000
set_option maxHeartbeats 1000000
open Go.Abs

theorem lit1V (z v : Value) : splice (repA [z] 1) (0 * 1) [v] = [v] := by rw [repA_one]; rfl
theorem rowsH_raw (h : List Blk) (R : Nat → Blk) (k : Nat) (L : List Blk) : rowsH h R k ++ L = h ++ ((List.range k).map R ++ L) := by unfold rowsH; rw [List.append_assoc]
section
variable (m : Nat) (bx mx pl f : Nat → UInt8) (n : Nat)
def tcX (j : Nat) : Nat → UInt8 := befF m mx pl (fun t => f ((j + 1) * 16 + t)) (j + 1 + 1 == n)
def tcF (j : Nat) : Nat → Int := stF bx (fun t => f (j * 16 + t)) (tcX m mx pl f n j)
def tcB (j : Nat) : Bool := allB (stB bx (fun t => f (j * 16 + t)) (tcX m mx pl f n j)) 16
def tcR (j : Nat) : Blk := ⟨Is 16 (tcF m bx mx pl f n j), true⟩
theorem tcR_plain (j : Nat) : (tcR m bx mx pl f n j).cells.all plainC = true := Is_plain 16 _
end
theorem trcS_no {m r : Int} {bx mx pl : Nat → UInt8} (hc : cipB m bx mx pl r = false) (b n : Nat) (h : List Blk) : AC Tryz.prog 7 [.agg (Ci m bx mx pl r).toArray, sl b 0 n 16] h (.tuple #[.slice none 0 0, .int .i64 1]) h := by
  (refine AC_begin (fun _ _ => Tryz.call7 _ _) Tryz.func7 rfl Tryz.ntmps7 Tryz.results7 (fun hwf => ?_); simp only [LCN, Nat.reduceAdd, Nat.reduceSub, List.replicate])
  (refine sW (And.intro @hc (@yieldA_at 3 18)) @cipS_ac ?_)
  (exact sR0)

theorem trcI_no {m r : Int} {bx mx pl : Nat → UInt8} (hc : cipB m bx mx pl r = false) (b n : Nat) (h : List Blk) : AC Tryz.prog 6 [.agg (Ci m bx mx pl r).toArray, sl b 0 n 16] h (.tuple #[.slice none 0 0, .int .i64 1]) h := by
  (refine AC_begin (fun _ _ => Tryz.call6 _ _) Tryz.func6 rfl Tryz.ntmps6 Tryz.results6 (fun hwf => ?_); simp only [LCN, Nat.reduceAdd, Nat.reduceSub, List.replicate])
  (refine sW @hc @cipI_ac ?_)
  (exact sR0)

theorem lenB_ac (b n : Nat) (hn : n ≤ 1048576) (h : List Blk) : AC Tryz.prog 31 [sl b 0 n 16] h (.int .i64 n) h := by
  (refine AC_begin (fun _ _ => Tryz.call31 _ _) Tryz.func31 rfl Tryz.ntmps31 Tryz.results31 (fun hwf => ?_); simp only [LCN, Nat.reduceAdd, Nat.reduceSub, List.replicate])
  (refine sN0 ?_)
  (exact sR0)

theorem trcS_out {m r : Int} {bx mx pl : Nat → UInt8} (hc : cipB m bx mx pl r = true) (b : Nat) {n : Nat} (hn : n < 2 ∨ 7 < n) (hn2 : n ≤ 1048576) (h : List Blk) : AC Tryz.prog 7 [.agg (Ci m bx mx pl r).toArray, sl b 0 n 16] h (.tuple #[.slice none 0 0, .int .i64 2]) h := by
  rcases Nat.lt_or_ge n 2 with h1 | h1
  · have e1 : decide (n < 2) = true := decide_eq_true h1
    (refine AC_begin (fun _ _ => Tryz.call7 _ _) Tryz.func7 rfl Tryz.ntmps7 Tryz.results7 (fun hwf => ?_); simp only [LCN, Nat.reduceAdd, Nat.reduceSub, List.replicate])
    (refine sW (And.intro @hc (And.intro @e1 (@yieldA_at 3 18))) @cipS_ac ?_)
    (exact sR0)
  · have e1 : decide (n < 2) = false := decide_eq_false (by omega)
    have e2 : decide (7 < n) = true := decide_eq_true (by omega)
    (refine AC_begin (fun _ _ => Tryz.call7 _ _) Tryz.func7 rfl Tryz.ntmps7 Tryz.results7 (fun hwf => ?_); simp only [LCN, Nat.reduceAdd, Nat.reduceSub, List.replicate])
    (refine sW (And.intro @hc (And.intro @e1 (And.intro @e2 (@yieldA_at 3 18)))) @cipS_ac ?_)
    (exact sR0)
theorem trcS_bad {m : Nat} {r : Int} (h0 : 256 ≤ m) (h1 : m < 512) {bx mx pl : Nat → UInt8} (hc : cipB m bx mx pl r = true) (hp : plOk pl = true) {h : List Blk} {b n : Nat} {f : Nat → UInt8} {rb : Bool} (hb : h[b]? = some ⟨Bs (n * 16) f, rb⟩) (hn1 : 2 ≤ n) (hn : n ≤ 7)
    (hbad : allB (tcB m bx mx pl f n) (n - 1) = false) : AC Tryz.prog 7 [.agg (Ci m bx mx pl r).toArray, sl b 0 n 16] h (.tuple #[.slice none 0 0, .int .i64 4]) h := by
  have hbl := blt hb
  obtain ⟨q, hq, hok, hz⟩ := allB_bad _ hbad
  have e1 : decide (n < 2) = false := decide_eq_false (by omega)
  have e2 : decide (7 < n) = false := decide_eq_false (by omega)
  (refine AC_begin (fun _ _ => Tryz.call7 _ _) Tryz.func7 rfl Tryz.ntmps7 Tryz.results7 (fun hwf => ?_); simp only [LCN, Nat.reduceAdd, Nat.reduceSub, List.replicate])
  (refine sW (And.intro @hc (And.intro @e1 (And.intro @e2 (@yieldA_at 3 18)))) @cipS_ac ?_)
  refine WA_forH (fun k => [(2, pt (rowsH h (tcR m bx mx pl f n) k).length 0), (4, J), (5, J), (6, sl ((rowsH h (tcR m bx mx pl f n) k).length + 1) 0 k 1), (7, .int .i64 ((k + 1 : Nat) : Int)), (8, J), (9, J), (23, J), (24, J), (25, J), (26, J), (27, J), (28, J), (29, J), (30, J), (31, J), (32, J), (33, J), (34, J), (35, J), (36, J), (37, J), (38, J), (39, J), (40, J), (41, J), (42, J), (43, J), (44, J), (45, J), (46, J), (47, J), (48, J), (49, J), (50, J), (51, J), (52, J), (53, J), (54, J)]) (fun k => rowsH h (tcR m bx mx pl f n) k ++ [⟨Ci m bx mx pl r, true⟩, ⟨Vs k fun j => sl (h.length + j) 0 16 1, true⟩]) (q) ?_ ?_ ?_ <;> (try simp only [PTS])
  · rw [rowsH_zero]
    (exact sS0)
  · intro j hj
    have hlk := look_old (rowsH_old (tcR m bx mx pl f n) j hb)
    have hwj := rowsH_wf (k := j) hwf (tcR_plain m bx mx pl f n)
    have hll := rowsH_len h (tcR m bx mx pl f n) j
    have ho : allB (stB bx (fun t => f (j * 16 + t)) (befF m mx pl (fun t => f ((j + 1) * 16 + t)) (j + 1 + 1 == n))) 16 = true := hok j hj
    (repeat (first | ((first | (refine And.intro ?_ ?_; focus exact PLA) | ((first | with_reducible apply callB_i | with_reducible apply callK_intro | with_reducible apply callQ_i); (focus (first | assumption | (with_reducible apply countsS_ok h0 h1 _ _ _ hp _ _ _ ho <;> (first | assumption | rfl | (simp (disch := omega) only [go_sem]; first | done | rfl) | omega | decide | (simp; done))))); (try exact WP_au)) | refine WA_seq (WA_region ?_) | refine WA_region ?_ | refine WA_exit ?_); try simp (maxSteps := 1000000) (disch := first | omega | rfl | decide | (simp only [LX] <;> omega)) only [go_sem, Nat.reduceAdd, Int.reduceAdd, Int.reduceSub, Int.reduceMul, BNS, hlk, lit1V, sub1, show j + 1 - 1 = j from rfl, yieldA_at 3 18]) | (refine (WA_rb (id := 9) [15] (SubM.refl _) mixedOk ?_); simp only [LSZ]; (repeat (first | ((first | (refine And.intro ?_ ?_; focus exact PLA) | ((first | with_reducible apply callB_i | with_reducible apply callK_intro | with_reducible apply callQ_i); (focus (first | assumption | (with_reducible apply countsS_ok h0 h1 _ _ _ hp _ _ _ ho <;> (first | assumption | rfl | (simp (disch := omega) only [go_sem]; first | done | rfl) | omega | decide | (simp; done))))); (try exact WP_au)) | refine RTk false [1, 2, 3, 4, 6, 7, 8, 10, 11, 12, 13, 14] 9 ?_ | refine RTk true [0, 5, 9] 6 ?_ | refine REx 15 ?_ | refine RTk false [16, 17, 18, 19, 20] 0 ?_ | refine RB_done (by decide +kernel) ?_); try simp (maxSteps := 1000000) (disch := first | omega | rfl | decide | (simp only [LX] <;> omega)) only [go_sem, Nat.reduceAdd, Int.reduceAdd, Int.reduceSub, Int.reduceMul, BNS, hlk, lit1V, sub1, show j + 1 - 1 = j from rfl, yieldA_at 3 18])))) | refine WA_seq ?_ | refine WA_block ?_ | (refine WA_skip ?_; try simp only [go_sem]) | (refine WA_ret ?_; try simp only [go_sem]) | refine WA_ct rfl ?_ | refine WA_cf rfl ?_))
    rw [rowsH_app, rowsH_lenS, show (rowsH h (tcR m bx mx pl f n) j).length + 1 + 1 = (rowsH h (tcR m bx mx pl f n) j).length + 2 from rfl]
    (refine Drop_gc [2, 0, 4] (by first | omega | first | assumption | omega | (simp only [LRP]; omega)) (by assumption) (by decide) ?_ ?_; (focus (repeat (first | exact trivial | (refine And.intro ⟨_, rfl, ?_⟩ ?_; (focus first | (refine Fit_plain ?_; simp only [go_sem, ALS]; done) | exact Fit_nil rfl | exact Fit_dead | (refine Fit_eq ?_ ?_; (focus simp only [go_sem, ALS]); (focus (first | rfl | (simp only [ICS]; done) | (simp only [ICS]; rfl)))) | (refine Fit_En ?_ ?_ ?_ ?_; (focus first | (rw [rhoF_new0]; rfl) | (rw [rhoF_new]; rfl) | (rw [rhoF_old]; first | assumption | omega)); (focus first | (rw [rhoF_new0]; rfl) | (rw [rhoF_new]; rfl) | (rw [rhoF_old]; first | assumption | omega)); (focus first | assumption | omega | (simp only [LRP]; omega)); (focus first | assumption | omega | (simp only [LRP]; omega))) | (refine Fit_spine ?_ ?_ ?_; (focus first | omega | assumption); (focus rfl); (focus (simp only [LAC]; omega)))))))); (focus (repeat (first | exact JR_nil | refine JR_J ?_ | (refine JR_plain ?_ ?_; (focus first | rfl | (refine plain_agg ?_; simp only [go_sem, ALS]; done))) | ((first | refine JR_pt ?_ ?_ ?_ | refine JR_sl ?_ ?_ ?_); (focus first | (rw [rhoF_new0]; rfl) | (rw [rhoF_new]; rfl) | (rw [rhoF_old]; first | assumption | omega)); (focus first | assumption | omega | (simp only [LRP]; omega))) | (refine JR_plain' ?_ ?_ ?_; (focus first | rfl | (refine plain_agg ?_; simp only [go_sem, ALS]; done)); (focus (first | rfl | (simp only [ICS]; done) | (simp only [ICS]; rfl)))) | (refine JR_sl' ?_ ?_ ?_ ?_; (focus first | (rw [rhoF_new0]; rfl) | (rw [rhoF_new]; rfl) | (rw [rhoF_old]; first | assumption | omega)); (focus first | assumption | omega | (simp only [LRP]; omega)); (focus first | rfl | omega | (first | rfl | (simp only [ICS]; done) | (simp only [ICS]; rfl))))))))
  · have hlk := look_old (rowsH_old (tcR m bx mx pl f n) q hb)
    have hll := rowsH_len h (tcR m bx mx pl f n) q
    have ho : allB (stB bx (fun t => f (q * 16 + t)) (befF m mx pl (fun t => f ((q + 1) * 16 + t)) (q + 1 + 1 == n))) 16 = false := hz
    (repeat (first | ((first | (refine And.intro ?_ ?_; focus exact PLA) | ((first | with_reducible apply callB_i | with_reducible apply callK_intro | with_reducible apply callQ_i); (focus (first | assumption | (with_reducible apply countsS_bad h0 h1 _ _ _ hp _ _ _ ho <;> (first | assumption | rfl | (simp (disch := omega) only [go_sem]; first | done | rfl) | omega | decide | (simp; done))))); (try exact WP_au)) | refine WA_seq (WA_region ?_) | refine WA_region ?_ | refine WA_exit ?_); try simp (maxSteps := 1000000) (disch := first | omega | rfl | decide | (simp only [LX] <;> omega)) only [go_sem, Nat.reduceAdd, Int.reduceAdd, Int.reduceSub, Int.reduceMul, BNS, hlk, show q + 1 - 1 = q from rfl, yieldA_at 3 18]) | (refine (WA_rb (id := 9) [15] (SubM.refl _) mixedOk ?_); simp only [LSZ]; (repeat (first | ((first | (refine And.intro ?_ ?_; focus exact PLA) | ((first | with_reducible apply callB_i | with_reducible apply callK_intro | with_reducible apply callQ_i); (focus (first | assumption | (with_reducible apply countsS_bad h0 h1 _ _ _ hp _ _ _ ho <;> (first | assumption | rfl | (simp (disch := omega) only [go_sem]; first | done | rfl) | omega | decide | (simp; done))))); (try exact WP_au)) | refine RTk false [1, 2, 3, 4, 6, 7, 8, 10, 11, 12, 13, 14] 9 ?_ | refine RTk true [0, 5, 9] 6 ?_ | refine REx 15 ?_ | refine RTk false [16, 17, 18, 19, 20] 0 ?_ | refine RB_done (by decide +kernel) ?_); try simp (maxSteps := 1000000) (disch := first | omega | rfl | decide | (simp only [LX] <;> omega)) only [go_sem, Nat.reduceAdd, Int.reduceAdd, Int.reduceSub, Int.reduceMul, BNS, hlk, show q + 1 - 1 = q from rfl, yieldA_at 3 18])))) | refine WA_seq ?_ | refine WA_block ?_ | (refine WA_skip ?_; try simp only [go_sem]) | (refine WA_ret ?_; try simp only [go_sem]) | refine WA_ct rfl ?_ | refine WA_cf rfl ?_))
    rw [rowsH_raw]
    (exact sR0)
theorem trcS_ok {m : Nat} {r : Int} (h0 : 256 ≤ m) (h1 : m < 512) {bx mx pl : Nat → UInt8} (hc : cipB m bx mx pl r = true) (hp : plOk pl = true) {h : List Blk} {b n : Nat} {f : Nat → UInt8} {rb : Bool} (hb : h[b]? = some ⟨Bs (n * 16) f, rb⟩) (hn1 : 2 ≤ n) (hn : n ≤ 7)
    (hok : allB (tcB m bx mx pl f n) (n - 1) = true) : AC Tryz.prog 7 [.agg (Ci m bx mx pl r).toArray, sl b 0 n 16] h (.tuple #[sl ((rowsH h (tcR m bx mx pl f n) (n - 1)).length + 1) 0 (n - 1) 1, .int .i64 0])
      (rowsH h (tcR m bx mx pl f n) (n - 1) ++ [⟨Ci m bx mx pl r, true⟩, ⟨Vs (n - 1) fun j => sl (h.length + j) 0 16 1, true⟩]) := by
  have hbl := blt hb
  have e1 : decide (n < 2) = false := decide_eq_false (by omega)
  have e2 : decide (7 < n) = false := decide_eq_false (by omega)
  (refine AC_begin (fun _ _ => Tryz.call7 _ _) Tryz.func7 rfl Tryz.ntmps7 Tryz.results7 (fun hwf => ?_); simp only [LCN, Nat.reduceAdd, Nat.reduceSub, List.replicate])
  (refine sW (And.intro @hc (And.intro @e1 (And.intro @e2 (@yieldA_at 3 18)))) @cipS_ac ?_)
  refine WA_forH (fun k => [(2, pt (rowsH h (tcR m bx mx pl f n) k).length 0), (4, J), (5, J), (6, sl ((rowsH h (tcR m bx mx pl f n) k).length + 1) 0 k 1), (7, .int .i64 ((k + 1 : Nat) : Int)), (8, J), (9, J), (23, J), (24, J), (25, J), (26, J), (27, J), (28, J), (29, J), (30, J), (31, J), (32, J), (33, J), (34, J), (35, J), (36, J), (37, J), (38, J), (39, J), (40, J), (41, J), (42, J), (43, J), (44, J), (45, J), (46, J), (47, J), (48, J), (49, J), (50, J), (51, J), (52, J), (53, J), (54, J)]) (fun k => rowsH h (tcR m bx mx pl f n) k ++ [⟨Ci m bx mx pl r, true⟩, ⟨Vs k fun j => sl (h.length + j) 0 16 1, true⟩]) (n - 1) ?_ ?_ ?_ <;> (try simp only [PTS])
  · rw [rowsH_zero]
    (exact sS0)
  · intro j hj
    have hlk := look_old (rowsH_old (tcR m bx mx pl f n) j hb)
    have hwj := rowsH_wf (k := j) hwf (tcR_plain m bx mx pl f n)
    have hll := rowsH_len h (tcR m bx mx pl f n) j
    have ho' : tcB m bx mx pl f n j = true := allB_at hok hj
    have ho : allB (stB bx (fun t => f (j * 16 + t)) (befF m mx pl (fun t => f ((j + 1) * 16 + t)) (j + 1 + 1 == n))) 16 = true := ho'
    (repeat (first | ((first | (refine And.intro ?_ ?_; focus exact PLA) | ((first | with_reducible apply callB_i | with_reducible apply callK_intro | with_reducible apply callQ_i); (focus (first | assumption | (with_reducible apply countsS_ok h0 h1 _ _ _ hp _ _ _ ho <;> (first | assumption | rfl | (simp (disch := omega) only [go_sem]; first | done | rfl) | omega | decide | (simp; done))))); (try exact WP_au)) | refine WA_seq (WA_region ?_) | refine WA_region ?_ | refine WA_exit ?_); try simp (maxSteps := 1000000) (disch := first | omega | rfl | decide | (simp only [LX] <;> omega)) only [go_sem, Nat.reduceAdd, Int.reduceAdd, Int.reduceSub, Int.reduceMul, BNS, hlk, lit1V, sub1, show j + 1 - 1 = j from rfl, yieldA_at 3 18]) | (refine (WA_rb (id := 9) [15] (SubM.refl _) mixedOk ?_); simp only [LSZ]; (repeat (first | ((first | (refine And.intro ?_ ?_; focus exact PLA) | ((first | with_reducible apply callB_i | with_reducible apply callK_intro | with_reducible apply callQ_i); (focus (first | assumption | (with_reducible apply countsS_ok h0 h1 _ _ _ hp _ _ _ ho <;> (first | assumption | rfl | (simp (disch := omega) only [go_sem]; first | done | rfl) | omega | decide | (simp; done))))); (try exact WP_au)) | refine RTk false [1, 2, 3, 4, 6, 7, 8, 10, 11, 12, 13, 14] 9 ?_ | refine RTk true [0, 5, 9] 6 ?_ | refine REx 15 ?_ | refine RTk false [16, 17, 18, 19, 20] 0 ?_ | refine RB_done (by decide +kernel) ?_); try simp (maxSteps := 1000000) (disch := first | omega | rfl | decide | (simp only [LX] <;> omega)) only [go_sem, Nat.reduceAdd, Int.reduceAdd, Int.reduceSub, Int.reduceMul, BNS, hlk, lit1V, sub1, show j + 1 - 1 = j from rfl, yieldA_at 3 18])))) | refine WA_seq ?_ | refine WA_block ?_ | (refine WA_skip ?_; try simp only [go_sem]) | (refine WA_ret ?_; try simp only [go_sem]) | refine WA_ct rfl ?_ | refine WA_cf rfl ?_))
    rw [rowsH_app, rowsH_lenS, show (rowsH h (tcR m bx mx pl f n) j).length + 1 + 1 = (rowsH h (tcR m bx mx pl f n) j).length + 2 from rfl]
    (refine Drop_gc [2, 0, 4] (by first | omega | first | assumption | omega | (simp only [LRP]; omega)) (by assumption) (by decide) ?_ ?_; (focus (repeat (first | exact trivial | (refine And.intro ⟨_, rfl, ?_⟩ ?_; (focus first | (refine Fit_plain ?_; simp only [go_sem, ALS]; done) | exact Fit_nil rfl | exact Fit_dead | (refine Fit_eq ?_ ?_; (focus simp only [go_sem, ALS]); (focus (first | rfl | (simp only [ICS]; done) | (simp only [ICS]; rfl)))) | (refine Fit_En ?_ ?_ ?_ ?_; (focus first | (rw [rhoF_new0]; rfl) | (rw [rhoF_new]; rfl) | (rw [rhoF_old]; first | assumption | omega)); (focus first | (rw [rhoF_new0]; rfl) | (rw [rhoF_new]; rfl) | (rw [rhoF_old]; first | assumption | omega)); (focus first | assumption | omega | (simp only [LRP]; omega)); (focus first | assumption | omega | (simp only [LRP]; omega))) | (refine Fit_spine ?_ ?_ ?_; (focus first | omega | assumption); (focus rfl); (focus (simp only [LAC]; omega)))))))); (focus (repeat (first | exact JR_nil | refine JR_J ?_ | (refine JR_plain ?_ ?_; (focus first | rfl | (refine plain_agg ?_; simp only [go_sem, ALS]; done))) | ((first | refine JR_pt ?_ ?_ ?_ | refine JR_sl ?_ ?_ ?_); (focus first | (rw [rhoF_new0]; rfl) | (rw [rhoF_new]; rfl) | (rw [rhoF_old]; first | assumption | omega)); (focus first | assumption | omega | (simp only [LRP]; omega))) | (refine JR_plain' ?_ ?_ ?_; (focus first | rfl | (refine plain_agg ?_; simp only [go_sem, ALS]; done)); (focus (first | rfl | (simp only [ICS]; done) | (simp only [ICS]; rfl)))) | (refine JR_sl' ?_ ?_ ?_ ?_; (focus first | (rw [rhoF_new0]; rfl) | (rw [rhoF_new]; rfl) | (rw [rhoF_old]; first | assumption | omega)); (focus first | assumption | omega | (simp only [LRP]; omega)); (focus first | rfl | omega | (first | rfl | (simp only [ICS]; done) | (simp only [ICS]; rfl))))))))
  · (refine sN (@yieldA_at 3 18) ?_)
    refine ret_full (by first | exact .inr rfl | exact .inl rfl) (by rw [List.length_append, rowsH_len]; omega) ?_
    simp (maxSteps := 1000000) (disch := first | omega | rfl | decide | (simp only [LX] <;> omega)) only [go_sem, Nat.reduceAdd, Int.reduceAdd, Int.reduceSub, Int.reduceMul, BNS]
    try rfl

theorem trcI_out {m r : Int} {bx mx pl : Nat → UInt8} (hc : cipB m bx mx pl r = true) (b : Nat) {n : Nat} (hn : n < 2 ∨ 7 < n) (hn2 : n ≤ 1048576) (h : List Blk) : AC Tryz.prog 6 [.agg (Ci m bx mx pl r).toArray, sl b 0 n 16] h (.tuple #[.slice none 0 0, .int .i64 2]) h := by
  have hi := inI_ac n 2 7
  rw [show inR (n : Int) 2 7 = false by unfold inR; rw [Bool.and_eq_false_iff, decide_eq_false_iff_not, decide_eq_false_iff_not]; omega] at hi
  have hl := lenB_ac b n hn2
  (refine AC_begin (fun _ _ => Tryz.call6 _ _) Tryz.func6 rfl Tryz.ntmps6 Tryz.results6 (fun hwf => ?_); simp only [LCN, Nat.reduceAdd, Nat.reduceSub, List.replicate])
  (refine sW @hc (And.intro @cipI_ac (And.intro @hl @hi)) ?_)
  (exact sR0)
theorem trcI_bad {m : Nat} {r : Int} (h0 : 256 ≤ m) (h1 : m < 512) {bx mx pl : Nat → UInt8} (hc : cipB m bx mx pl r = true) (hp : plOk pl = true) {h : List Blk} {b n : Nat} {f : Nat → UInt8} {rb : Bool} (hb : h[b]? = some ⟨Bs (n * 16) f, rb⟩) (hn1 : 2 ≤ n) (hn : n ≤ 7)
    (hbad : allB (tcB m bx mx pl f n) (n - 1) = false) : AC Tryz.prog 6 [.agg (Ci m bx mx pl r).toArray, sl b 0 n 16] h (.tuple #[.slice none 0 0, .int .i64 4]) h := by
  have hbl := blt hb
  obtain ⟨q, hq, hok, hz⟩ := allB_bad _ hbad
  have hi := inI_ac n 2 7
  rw [show inR (n : Int) 2 7 = true by unfold inR; rw [Bool.and_eq_true, decide_eq_true_eq, decide_eq_true_eq]; omega] at hi
  have hl := lenB_ac b n (by omega)
  (refine AC_begin (fun _ _ => Tryz.call6 _ _) Tryz.func6 rfl Tryz.ntmps6 Tryz.results6 (fun hwf => ?_); simp only [LCN, Nat.reduceAdd, Nat.reduceSub, List.replicate])
  (repeat (first | ((first | (refine And.intro ?_ ?_; focus exact PLA) | ((first | with_reducible apply callB_i | with_reducible apply callK_intro | with_reducible apply callQ_i); (focus (first | assumption | ((first | with_reducible apply cipI_ac | with_reducible apply hl | with_reducible apply hi | with_reducible apply newEngine_ac h0 h1 _ _ hp) <;> (first | assumption | rfl | (simp (disch := omega) only [go_sem]; first | done | rfl) | omega | decide | (simp; done))))); (try exact WP_au)) | refine WA_seq (WA_region ?_) | refine WA_region ?_ | refine WA_exit ?_); try simp (maxSteps := 1000000) (disch := first | omega | rfl | decide | (simp only [LX] <;> omega)) only [go_sem, Nat.reduceAdd, Int.reduceAdd, Int.reduceSub, Int.reduceMul, BNS, hc, Bool.not_true]) | refine WA_seq ?_ | refine WA_block ?_ | (refine WA_skip ?_; try simp only [go_sem]) | (refine WA_ret ?_; try simp only [go_sem]) | refine WA_ct rfl ?_ | refine WA_cf rfl ?_))
  refine WA_forH (fun k => [(2, pt (rowsH h (tcR m bx mx pl f n) k).length 0), (4, J), (5, J), (6, pt ((rowsH h (tcR m bx mx pl f n) k).length + 5) 0), (7, sl ((rowsH h (tcR m bx mx pl f n) k).length + 6) 0 k 1), (8, .int .i64 ((k + 1 : Nat) : Int)), (9, J), (20, J), (21, J), (22, J), (23, J), (24, J), (25, J), (26, J), (27, J), (28, J), (29, J), (30, J), (31, J), (32, J), (33, J), (34, J), (35, J), (36, J), (37, J), (38, J), (39, J), (40, J), (41, J), (42, J), (43, J), (44, J), (45, J), (46, J), (47, J), (48, J), (49, J)]) (fun k => rowsH h (tcR m bx mx pl f n) k ++ [⟨Ci m bx mx pl r, true⟩, ⟨Ci m bx mx pl r, true⟩, ⟨Bs 16 (backF m mx), true⟩, ⟨Bs 4096 (mixT m mx), true⟩, ⟨Bs 4096 (mixT m (backF m mx)), true⟩, ⟨En bx (invP bx 256) pl (invP pl 16) (pt ((rowsH h (tcR m bx mx pl f n) k).length + 3) 0) (pt ((rowsH h (tcR m bx mx pl f n) k).length + 4) 0) r, true⟩, ⟨Vs k fun j => sl (h.length + j) 0 16 1, true⟩]) (q) ?_ ?_ ?_ <;> (try simp only [PTS])
  · rw [rowsH_zero]
    (refine Drop_slots (by first | exact Nat.le_refl _ | simp) ?_; focus ((try simp only [JL_same, JL_J, JL_nil, Int.reduceAdd, Nat.sub_sub, ICS, Bool.false_eq_true, if_false, if_true]); (try exact JL_refl _)))
  · intro j hj
    have hlk := look_old (rowsH_old (tcR m bx mx pl f n) j hb)
    have hwj := rowsH_wf (k := j) hwf (tcR_plain m bx mx pl f n)
    have hll := rowsH_len h (tcR m bx mx pl f n) j
    have hlast : (j + 1 == n - 1) = (j + 1 + 1 == n) := by rw [Bool.eq_iff_iff]; simp; omega
    have ho : allB (stB bx (fun t => f (j * 16 + t)) (befF m mx pl (fun t => f ((j + 1) * 16 + t)) (j + 1 + 1 == n))) 16 = true := hok j hj
    have hct : ∀ {h : List Blk} {be bt : Nat} {ib : Nat → UInt8} {v4 : Value} {r : Int} {re rt : Bool}, h[be]? = some ⟨En bx ib pl (invP pl 16) v4 (pt bt 0) r, re⟩ → h[bt]? = some ⟨Bs 4096 (mixT m (backF m mx)), rt⟩ → AC Tryz.prog 33 [pt be 0, .agg (Bs 16 fun t => f (j * 16 + t)).toArray, .agg (Bs 16 fun t => f ((j + 1) * 16 + t)).toArray, .bool (j + 1 + 1 == n)] h (sl h.length 0 16 1) (h ++ [⟨Is 16 (stF bx (fun t => f (j * 16 + t)) (befF m mx pl (fun t => f ((j + 1) * 16 + t)) (j + 1 + 1 == n))), true⟩]) := fun he ht => countsI_ok he ht _ _ _ ho
    (repeat (first | ((first | (refine And.intro ?_ ?_; focus exact PLA) | ((first | with_reducible apply callB_i | with_reducible apply callK_intro | with_reducible apply callQ_i); (focus (first | assumption | (with_reducible apply hct <;> (first | assumption | (refine look_old ?_ _; assumption) | rfl | (simp (disch := omega) only [go_sem]; first | done | rfl) | omega | decide | (simp; done))))); (try exact WP_au)) | refine WA_seq (WA_region ?_) | refine WA_region ?_ | refine WA_exit ?_); try simp (maxSteps := 1000000) (disch := first | omega | rfl | decide | (simp only [LX] <;> omega)) only [go_sem, Nat.reduceAdd, Int.reduceAdd, Int.reduceSub, Int.reduceMul, BNS, hlk, lit1V, sub1, hlast, show j + 1 - 1 = j from rfl]) | (refine (WA_rb (id := 9) [15] (SubM.refl _) mixedOk ?_); simp only [LSZ]; (repeat (first | ((first | (refine And.intro ?_ ?_; focus exact PLA) | ((first | with_reducible apply callB_i | with_reducible apply callK_intro | with_reducible apply callQ_i); (focus (first | assumption | (with_reducible apply hct <;> (first | assumption | (refine look_old ?_ _; assumption) | rfl | (simp (disch := omega) only [go_sem]; first | done | rfl) | omega | decide | (simp; done))))); (try exact WP_au)) | refine RTk false [0, 1, 2, 3, 4, 6, 7, 8, 10, 11, 12, 13, 14] 4 ?_ | refine RTk true [5, 9] 2 ?_ | refine REx 15 ?_ | refine RTk false [16] 0 ?_ | refine RB_done (by decide +kernel) ?_); try simp (maxSteps := 1000000) (disch := first | omega | rfl | decide | (simp only [LX] <;> omega)) only [go_sem, Nat.reduceAdd, Int.reduceAdd, Int.reduceSub, Int.reduceMul, BNS, hlk, lit1V, sub1, hlast, show j + 1 - 1 = j from rfl])))) | refine WA_seq ?_ | refine WA_block ?_ | (refine WA_skip ?_; try simp only [go_sem]) | (refine WA_ret ?_; try simp only [go_sem]) | refine WA_ct rfl ?_ | refine WA_cf rfl ?_))
    rw [rowsH_app, rowsH_lenS]
    simp only [Nat.add_assoc, Nat.reduceAdd]
    (refine Drop_gc [7, 0, 1, 2, 3, 4, 5, 9] (by first | omega | first | assumption | omega | (simp only [LRP]; omega)) (by assumption) (by decide) ?_ ?_; (focus (repeat (first | exact trivial | (refine And.intro ⟨_, rfl, ?_⟩ ?_; (focus first | (refine Fit_plain ?_; simp only [go_sem, ALS]; done) | exact Fit_nil rfl | exact Fit_dead | (refine Fit_eq ?_ ?_; (focus simp only [go_sem, ALS]); (focus (first | rfl | (simp only [ICS]; done) | (simp only [ICS]; rfl)))) | (refine Fit_En ?_ ?_ ?_ ?_; (focus first | (rw [rhoF_new0]; rfl) | (rw [rhoF_new]; rfl) | (rw [rhoF_old]; first | assumption | omega)); (focus first | (rw [rhoF_new0]; rfl) | (rw [rhoF_new]; rfl) | (rw [rhoF_old]; first | assumption | omega)); (focus first | assumption | omega | (simp only [LRP]; omega)); (focus first | assumption | omega | (simp only [LRP]; omega))) | (refine Fit_spine ?_ ?_ ?_; (focus first | omega | assumption); (focus rfl); (focus (simp only [LAC]; omega)))))))); (focus (repeat (first | exact JR_nil | refine JR_J ?_ | (refine JR_plain ?_ ?_; (focus first | rfl | (refine plain_agg ?_; simp only [go_sem, ALS]; done))) | ((first | refine JR_pt ?_ ?_ ?_ | refine JR_sl ?_ ?_ ?_); (focus first | (rw [rhoF_new0]; rfl) | (rw [rhoF_new]; rfl) | (rw [rhoF_old]; first | assumption | omega)); (focus first | assumption | omega | (simp only [LRP]; omega))) | (refine JR_plain' ?_ ?_ ?_; (focus first | rfl | (refine plain_agg ?_; simp only [go_sem, ALS]; done)); (focus (first | rfl | (simp only [ICS]; done) | (simp only [ICS]; rfl)))) | (refine JR_sl' ?_ ?_ ?_ ?_; (focus first | (rw [rhoF_new0]; rfl) | (rw [rhoF_new]; rfl) | (rw [rhoF_old]; first | assumption | omega)); (focus first | assumption | omega | (simp only [LRP]; omega)); (focus first | rfl | omega | (first | rfl | (simp only [ICS]; done) | (simp only [ICS]; rfl))))))))
  · have hlk := look_old (rowsH_old (tcR m bx mx pl f n) q hb)
    have hll := rowsH_len h (tcR m bx mx pl f n) q
    have hlast : (q + 1 == n - 1) = (q + 1 + 1 == n) := by rw [Bool.eq_iff_iff]; simp; omega
    have ho : allB (stB bx (fun t => f (q * 16 + t)) (befF m mx pl (fun t => f ((q + 1) * 16 + t)) (q + 1 + 1 == n))) 16 = false := hz
    have hct : ∀ {h : List Blk} {be bt : Nat} {ib : Nat → UInt8} {v4 : Value} {r : Int} {re rt : Bool}, h[be]? = some ⟨En bx ib pl (invP pl 16) v4 (pt bt 0) r, re⟩ → h[bt]? = some ⟨Bs 4096 (mixT m (backF m mx)), rt⟩ → AC Tryz.prog 33 [pt be 0, .agg (Bs 16 fun t => f (q * 16 + t)).toArray, .agg (Bs 16 fun t => f ((q + 1) * 16 + t)).toArray, .bool (q + 1 + 1 == n)] h (.slice none 0 0) h := fun he ht => countsI_bad he ht _ _ _ ho
    (repeat (first | ((first | (refine And.intro ?_ ?_; focus exact PLA) | ((first | with_reducible apply callB_i | with_reducible apply callK_intro | with_reducible apply callQ_i); (focus (first | assumption | (with_reducible apply hct <;> (first | assumption | (refine look_old ?_ _; assumption) | rfl | (simp (disch := omega) only [go_sem]; first | done | rfl) | omega | decide | (simp; done))))); (try exact WP_au)) | refine WA_seq (WA_region ?_) | refine WA_region ?_ | refine WA_exit ?_); try simp (maxSteps := 1000000) (disch := first | omega | rfl | decide | (simp only [LX] <;> omega)) only [go_sem, Nat.reduceAdd, Int.reduceAdd, Int.reduceSub, Int.reduceMul, BNS, hlk, hlast, show q + 1 - 1 = q from rfl]) | (refine (WA_rb (id := 9) [15] (SubM.refl _) mixedOk ?_); simp only [LSZ]; (repeat (first | ((first | (refine And.intro ?_ ?_; focus exact PLA) | ((first | with_reducible apply callB_i | with_reducible apply callK_intro | with_reducible apply callQ_i); (focus (first | assumption | (with_reducible apply hct <;> (first | assumption | (refine look_old ?_ _; assumption) | rfl | (simp (disch := omega) only [go_sem]; first | done | rfl) | omega | decide | (simp; done))))); (try exact WP_au)) | refine RTk false [0, 1, 2, 3, 4, 6, 7, 8, 10, 11, 12, 13, 14] 4 ?_ | refine RTk true [5, 9] 2 ?_ | refine REx 15 ?_ | refine RTk false [16] 0 ?_ | refine RB_done (by decide +kernel) ?_); try simp (maxSteps := 1000000) (disch := first | omega | rfl | decide | (simp only [LX] <;> omega)) only [go_sem, Nat.reduceAdd, Int.reduceAdd, Int.reduceSub, Int.reduceMul, BNS, hlk, hlast, show q + 1 - 1 = q from rfl])))) | refine WA_seq ?_ | refine WA_block ?_ | (refine WA_skip ?_; try simp only [go_sem]) | (refine WA_ret ?_; try simp only [go_sem]) | refine WA_ct rfl ?_ | refine WA_cf rfl ?_))
    rw [rowsH_raw]
    ((first | refine ret_nA ?_ | refine ret_sA ?_ | refine ret_fA ?_); simp (maxSteps := 1000000) (disch := first | omega | rfl | decide | (simp only [LX] <;> omega)) only [go_sem, Nat.reduceAdd, Int.reduceAdd, Int.reduceSub, Int.reduceMul, BNS]; try rfl)
theorem trcI_ok {m : Nat} {r : Int} (h0 : 256 ≤ m) (h1 : m < 512) {bx mx pl : Nat → UInt8} (hc : cipB m bx mx pl r = true) (hp : plOk pl = true) {h : List Blk} {b n : Nat} {f : Nat → UInt8} {rb : Bool} (hb : h[b]? = some ⟨Bs (n * 16) f, rb⟩) (hn1 : 2 ≤ n) (hn : n ≤ 7)
    (hok : allB (tcB m bx mx pl f n) (n - 1) = true) : AC Tryz.prog 6 [.agg (Ci m bx mx pl r).toArray, sl b 0 n 16] h (.tuple #[sl ((rowsH h (tcR m bx mx pl f n) (n - 1)).length + 6) 0 (n - 1) 1, .int .i64 0])
      (rowsH h (tcR m bx mx pl f n) (n - 1) ++ [⟨Ci m bx mx pl r, true⟩, ⟨Ci m bx mx pl r, true⟩, ⟨Bs 16 (backF m mx), true⟩, ⟨Bs 4096 (mixT m mx), true⟩, ⟨Bs 4096 (mixT m (backF m mx)), true⟩, ⟨En bx (invP bx 256) pl (invP pl 16) (pt ((rowsH h (tcR m bx mx pl f n) (n - 1)).length + 3) 0) (pt ((rowsH h (tcR m bx mx pl f n) (n - 1)).length + 4) 0) r, true⟩, ⟨Vs (n - 1) fun j => sl (h.length + j) 0 16 1, true⟩]) := by
  have hbl := blt hb
  have hi := inI_ac n 2 7
  rw [show inR (n : Int) 2 7 = true by unfold inR; rw [Bool.and_eq_true, decide_eq_true_eq, decide_eq_true_eq]; omega] at hi
  have hl := lenB_ac b n (by omega)
  (refine AC_begin (fun _ _ => Tryz.call6 _ _) Tryz.func6 rfl Tryz.ntmps6 Tryz.results6 (fun hwf => ?_); simp only [LCN, Nat.reduceAdd, Nat.reduceSub, List.replicate])
  (repeat (first | ((first | (refine And.intro ?_ ?_; focus exact PLA) | ((first | with_reducible apply callB_i | with_reducible apply callK_intro | with_reducible apply callQ_i); (focus (first | assumption | ((first | with_reducible apply cipI_ac | with_reducible apply hl | with_reducible apply hi | with_reducible apply newEngine_ac h0 h1 _ _ hp) <;> (first | assumption | rfl | (simp (disch := omega) only [go_sem]; first | done | rfl) | omega | decide | (simp; done))))); (try exact WP_au)) | refine WA_seq (WA_region ?_) | refine WA_region ?_ | refine WA_exit ?_); try simp (maxSteps := 1000000) (disch := first | omega | rfl | decide | (simp only [LX] <;> omega)) only [go_sem, Nat.reduceAdd, Int.reduceAdd, Int.reduceSub, Int.reduceMul, BNS, hc, Bool.not_true]) | refine WA_seq ?_ | refine WA_block ?_ | (refine WA_skip ?_; try simp only [go_sem]) | (refine WA_ret ?_; try simp only [go_sem]) | refine WA_ct rfl ?_ | refine WA_cf rfl ?_))
  refine WA_forH (fun k => [(2, pt (rowsH h (tcR m bx mx pl f n) k).length 0), (4, J), (5, J), (6, pt ((rowsH h (tcR m bx mx pl f n) k).length + 5) 0), (7, sl ((rowsH h (tcR m bx mx pl f n) k).length + 6) 0 k 1), (8, .int .i64 ((k + 1 : Nat) : Int)), (9, J), (20, J), (21, J), (22, J), (23, J), (24, J), (25, J), (26, J), (27, J), (28, J), (29, J), (30, J), (31, J), (32, J), (33, J), (34, J), (35, J), (36, J), (37, J), (38, J), (39, J), (40, J), (41, J), (42, J), (43, J), (44, J), (45, J), (46, J), (47, J), (48, J), (49, J)]) (fun k => rowsH h (tcR m bx mx pl f n) k ++ [⟨Ci m bx mx pl r, true⟩, ⟨Ci m bx mx pl r, true⟩, ⟨Bs 16 (backF m mx), true⟩, ⟨Bs 4096 (mixT m mx), true⟩, ⟨Bs 4096 (mixT m (backF m mx)), true⟩, ⟨En bx (invP bx 256) pl (invP pl 16) (pt ((rowsH h (tcR m bx mx pl f n) k).length + 3) 0) (pt ((rowsH h (tcR m bx mx pl f n) k).length + 4) 0) r, true⟩, ⟨Vs k fun j => sl (h.length + j) 0 16 1, true⟩]) (n - 1) ?_ ?_ ?_ <;> (try simp only [PTS])
  · rw [rowsH_zero]
    (refine Drop_slots (by first | exact Nat.le_refl _ | simp) ?_; focus ((try simp only [JL_same, JL_J, JL_nil, Int.reduceAdd, Nat.sub_sub, ICS, Bool.false_eq_true, if_false, if_true]); (try exact JL_refl _)))
  · intro j hj
    have hlk := look_old (rowsH_old (tcR m bx mx pl f n) j hb)
    have hwj := rowsH_wf (k := j) hwf (tcR_plain m bx mx pl f n)
    have hll := rowsH_len h (tcR m bx mx pl f n) j
    have hlast : (j + 1 == n - 1) = (j + 1 + 1 == n) := by rw [Bool.eq_iff_iff]; simp; omega
    have ho' : tcB m bx mx pl f n j = true := allB_at hok hj
    have ho : allB (stB bx (fun t => f (j * 16 + t)) (befF m mx pl (fun t => f ((j + 1) * 16 + t)) (j + 1 + 1 == n))) 16 = true := ho'
    have hct : ∀ {h : List Blk} {be bt : Nat} {ib : Nat → UInt8} {v4 : Value} {r : Int} {re rt : Bool}, h[be]? = some ⟨En bx ib pl (invP pl 16) v4 (pt bt 0) r, re⟩ → h[bt]? = some ⟨Bs 4096 (mixT m (backF m mx)), rt⟩ → AC Tryz.prog 33 [pt be 0, .agg (Bs 16 fun t => f (j * 16 + t)).toArray, .agg (Bs 16 fun t => f ((j + 1) * 16 + t)).toArray, .bool (j + 1 + 1 == n)] h (sl h.length 0 16 1) (h ++ [⟨Is 16 (stF bx (fun t => f (j * 16 + t)) (befF m mx pl (fun t => f ((j + 1) * 16 + t)) (j + 1 + 1 == n))), true⟩]) := fun he ht => countsI_ok he ht _ _ _ ho
    (repeat (first | ((first | (refine And.intro ?_ ?_; focus exact PLA) | ((first | with_reducible apply callB_i | with_reducible apply callK_intro | with_reducible apply callQ_i); (focus (first | assumption | (with_reducible apply hct <;> (first | assumption | (refine look_old ?_ _; assumption) | rfl | (simp (disch := omega) only [go_sem]; first | done | rfl) | omega | decide | (simp; done))))); (try exact WP_au)) | refine WA_seq (WA_region ?_) | refine WA_region ?_ | refine WA_exit ?_); try simp (maxSteps := 1000000) (disch := first | omega | rfl | decide | (simp only [LX] <;> omega)) only [go_sem, Nat.reduceAdd, Int.reduceAdd, Int.reduceSub, Int.reduceMul, BNS, hlk, lit1V, sub1, hlast, show j + 1 - 1 = j from rfl]) | (refine (WA_rb (id := 9) [15] (SubM.refl _) mixedOk ?_); simp only [LSZ]; (repeat (first | ((first | (refine And.intro ?_ ?_; focus exact PLA) | ((first | with_reducible apply callB_i | with_reducible apply callK_intro | with_reducible apply callQ_i); (focus (first | assumption | (with_reducible apply hct <;> (first | assumption | (refine look_old ?_ _; assumption) | rfl | (simp (disch := omega) only [go_sem]; first | done | rfl) | omega | decide | (simp; done))))); (try exact WP_au)) | refine RTk false [0, 1, 2, 3, 4, 6, 7, 8, 10, 11, 12, 13, 14] 4 ?_ | refine RTk true [5, 9] 2 ?_ | refine REx 15 ?_ | refine RTk false [16] 0 ?_ | refine RB_done (by decide +kernel) ?_); try simp (maxSteps := 1000000) (disch := first | omega | rfl | decide | (simp only [LX] <;> omega)) only [go_sem, Nat.reduceAdd, Int.reduceAdd, Int.reduceSub, Int.reduceMul, BNS, hlk, lit1V, sub1, hlast, show j + 1 - 1 = j from rfl])))) | refine WA_seq ?_ | refine WA_block ?_ | (refine WA_skip ?_; try simp only [go_sem]) | (refine WA_ret ?_; try simp only [go_sem]) | refine WA_ct rfl ?_ | refine WA_cf rfl ?_))
    rw [rowsH_app, rowsH_lenS]
    simp only [Nat.add_assoc, Nat.reduceAdd]
    (refine Drop_gc [7, 0, 1, 2, 3, 4, 5, 9] (by first | omega | first | assumption | omega | (simp only [LRP]; omega)) (by assumption) (by decide) ?_ ?_; (focus (repeat (first | exact trivial | (refine And.intro ⟨_, rfl, ?_⟩ ?_; (focus first | (refine Fit_plain ?_; simp only [go_sem, ALS]; done) | exact Fit_nil rfl | exact Fit_dead | (refine Fit_eq ?_ ?_; (focus simp only [go_sem, ALS]); (focus (first | rfl | (simp only [ICS]; done) | (simp only [ICS]; rfl)))) | (refine Fit_En ?_ ?_ ?_ ?_; (focus first | (rw [rhoF_new0]; rfl) | (rw [rhoF_new]; rfl) | (rw [rhoF_old]; first | assumption | omega)); (focus first | (rw [rhoF_new0]; rfl) | (rw [rhoF_new]; rfl) | (rw [rhoF_old]; first | assumption | omega)); (focus first | assumption | omega | (simp only [LRP]; omega)); (focus first | assumption | omega | (simp only [LRP]; omega))) | (refine Fit_spine ?_ ?_ ?_; (focus first | omega | assumption); (focus rfl); (focus (simp only [LAC]; omega)))))))); (focus (repeat (first | exact JR_nil | refine JR_J ?_ | (refine JR_plain ?_ ?_; (focus first | rfl | (refine plain_agg ?_; simp only [go_sem, ALS]; done))) | ((first | refine JR_pt ?_ ?_ ?_ | refine JR_sl ?_ ?_ ?_); (focus first | (rw [rhoF_new0]; rfl) | (rw [rhoF_new]; rfl) | (rw [rhoF_old]; first | assumption | omega)); (focus first | assumption | omega | (simp only [LRP]; omega))) | (refine JR_plain' ?_ ?_ ?_; (focus first | rfl | (refine plain_agg ?_; simp only [go_sem, ALS]; done)); (focus (first | rfl | (simp only [ICS]; done) | (simp only [ICS]; rfl)))) | (refine JR_sl' ?_ ?_ ?_ ?_; (focus first | (rw [rhoF_new0]; rfl) | (rw [rhoF_new]; rfl) | (rw [rhoF_old]; first | assumption | omega)); (focus first | assumption | omega | (simp only [LRP]; omega)); (focus first | rfl | omega | (first | rfl | (simp only [ICS]; done) | (simp only [ICS]; rfl))))))))
  · (repeat (first | ((first | (refine And.intro ?_ ?_; focus exact PLA) | refine WA_seq (WA_region ?_) | refine WA_region ?_ | refine WA_exit ?_); try simp (maxSteps := 1000000) (disch := first | omega | rfl | decide | (simp only [LX] <;> omega)) only [go_sem, Nat.reduceAdd, Int.reduceAdd, Int.reduceSub, Int.reduceMul, BNS]) | refine WA_seq ?_ | refine WA_block ?_ | (refine WA_skip ?_; try simp only [go_sem]) | (refine WA_ret ?_; try simp only [go_sem]) | refine WA_ct rfl ?_ | refine WA_cf rfl ?_))
    refine ret_full (by first | exact .inr rfl | exact .inl rfl) (by rw [List.length_append, rowsH_len]; omega) ?_
    simp (maxSteps := 1000000) (disch := first | omega | rfl | decide | (simp only [LX] <;> omega)) only [go_sem, Nat.reduceAdd, Int.reduceAdd, Int.reduceSub, Int.reduceMul, BNS]
    try rfl

end Go.Proofs.YtenkjbkcdcionaaGreat
/- TrailCounts: the law. -/
namespace Go.Proofs.YtenkjbkcdcionaaGreat
set_option linter.unusedSimpArgs false
set_option linter.unusedVariables false
set_option maxRecDepth 20000
set_option maxHeartbeats 1000000
open Go.Abs

structure Grown (h h' : List Blk) (b N : Nat) (g : Nat → Nat) (R : Nat → Blk) (z : Nat) : Prop where
  old : ∀ (i : Nat) (x : Blk), h[i]? = some x → h'[i]? = some x
  app : ∃ L, h' = h ++ L
  sp : h'[b]? = some ⟨Vs N fun j => sl (g j) 0 z 1, true⟩
  row : ∀ j, j < N → h'[g j]? = some (R j)
  inj : ∀ i j, i < N → j < N → g i = g j → i = j
  ne : ∀ j, j < N → g j ≠ b
  newB : h.length ≤ b
  newG : ∀ j, h.length ≤ g j
theorem grown_rows {h tail : List Blk} {R : Nat → Blk} {N c z : Nat} (hs : tail[c]? = some ⟨Vs N fun j => sl (h.length + j) 0 z 1, true⟩) :
    Grown h (rowsH h R N ++ tail) ((rowsH h R N).length + c) N (fun j => h.length + j) R z where
  old := fun i x hx => look_old (rowsH_old R N hx) tail
  app := ⟨_, rowsH_raw h R N tail⟩
  sp := by rw [List.getElem?_append_right (by omega), show (rowsH h R N).length + c - (rowsH h R N).length = c by omega]; exact hs
  row := fun j hj => look_old (rowsH_get h R hj) tail
  inj := fun i j _ _ e => by have : h.length + i = h.length + j := e; omega
  ne := fun j hj e => by have e' : h.length + j = (rowsH h R N).length + c := e; rw [rowsH_len] at e'; omega
  newB := by rw [rowsH_len]; omega
  newG := fun j => Nat.le_add_right _ _
end Go.Proofs.YtenkjbkcdcionaaGreat
