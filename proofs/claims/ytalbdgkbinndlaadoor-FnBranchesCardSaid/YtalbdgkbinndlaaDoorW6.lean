/- Which moduli are fields. -/
import Derived.Test.YtalbdgkbinndlaaDoorAbsSh
import Derived.Test.YtalbdgkbinndlaaDoorW5
namespace Go.Proofs.YtalbdgkbinndlaaDoor
set_option linter.unusedSimpArgs false
set_option linter.unusedVariables false
set_option maxRecDepth 20000
set_option maxHeartbeats 1000000
open Go.Abs

theorem inR_nat {m : Int} (hr : inR m 256 511 = true) : ∃ n : Nat, m = n ∧ 256 ≤ n ∧ n < 512 := by
  unfold inR at hr
  rw [Bool.and_eq_true, decide_eq_true_eq, decide_eq_true_eq] at hr
  exact ⟨m.toNat, by omega, by omega, by omega⟩
theorem fieldB_in {m : Int} (hr : inR m 256 511 = false) : fieldB m.toNat = false := by
  unfold inR at hr
  unfold fieldB
  rw [Bool.and_eq_false_iff, decide_eq_false_iff_not, decide_eq_false_iff_not] at hr
  have : (decide (256 ≤ m.toNat) && decide (m.toNat < 512)) = false := by
    rw [Bool.and_eq_false_iff, decide_eq_false_iff_not, decide_eq_false_iff_not]; omega
  rw [this]; rfl
theorem fieldB_eq {n : Nat} (h0 : 256 ≤ n) (h1 : n < 512) : fieldB n = fieldAll n 30 := by
  unfold fieldB fieldAll; simp [h0, h1]
theorem blen_two (k : Nat) : 1 ≤ blen (k + 2) - 1 := by
  have : ¬ blen (k + 2) ≤ 1 := fun h => by have := lt_of_blen h; omega
  omega
theorem restN_lt5 {m d g : Nat} (h1 : m < 512) (h3 : d < 2 ^ 5) (hg : 1 ≤ g) : restN d g m < 1048576 := restD_lt h3 hg (by omega) _

theorem fieldS_ac (m : Int) (h : List Blk) : AC Tryd.prog 27 [.int .i64 m] h (.bool (fieldB m.toNat)) h := by
  cases hr : inR m 256 511
  · (refine AC_begin (fun _ _ => Tryd.call27 _ _) Tryd.func27 rfl Tryd.ntmps27 Tryd.results27 (fun hwf => ?_); simp only [List.length_cons, List.length_nil, Nat.reduceAdd, Nat.reduceSub, List.replicate, List.cons_append, List.nil_append])
    (refine sW @hr (inS_ac m 256 511) ?_)
    (exact sR (fieldB_in hr))
  · obtain ⟨n, rfl, h0, h1⟩ := inR_nat hr
    (refine AC_begin (fun _ _ => Tryd.call27 _ _) Tryd.func27 rfl Tryd.ntmps27 Tryd.results27 (fun hwf => ?_); simp only [List.length_cons, List.length_nil, Nat.reduceAdd, Nat.reduceSub, List.replicate, List.cons_append, List.nil_append])
    (refine sW @hr (inS_ac n 256 511) ?_)
    refine WA_forHJ (fun k => fieldAll n k = true) (fun k => [(2, J), (3, .int .i64 (k + 2)), (7, J), (8, J), (9, J), (10, J), (11, J), (12, J), (13, J), (14, J)]) (fun k => h) (30) ?_ ?_ ?_ ?_ <;> (try simp only [patT_cons, patT_nil, patL_cons, patL_nil, list_set_zero, list_set_succ, blk_set_zero, blk_set_succ])
    · exact fieldAll_0 n
    · (exact sS0)
    · intro k hk hJ
      have hlt := restN_lt5 (m := n) (d := k + 2) (g := blen (k + 2) - 1) h1 (by omega) (blen_two k)
      cases hz : restN (k + 2) (blen (k + 2) - 1) n == 0
      · (refine sW @hz (restS_ac h0 h1 (d := k + 2) (by omega) (by omega)) ?_)
        refine ⟨fieldAll_s hJ (by simpa using hz), ?_⟩
        (exact sS @Int.add_assoc)
      · (refine sW @hz (restS_ac h0 h1 (d := k + 2) (by omega) (by omega)) ?_)
        (exact sR (And.intro (fieldB_eq h0 h1) (fieldAll_f hk (by simpa using hz))))
    · intro hJ
      (refine sN0 ?_)
      (exact sR (And.intro (fieldB_eq h0 h1) @hJ))

theorem isField_ac (m : Int) (h : List Blk) : AC Tryd.prog 24 [.int .i64 m] h (.bool (fieldB m.toNat)) h := by
  cases hr : inR m 256 511
  · (refine AC_begin (fun _ _ => Tryd.call24 _ _) Tryd.func24 rfl Tryd.ntmps24 Tryd.results24 (fun hwf => ?_); simp only [List.length_cons, List.length_nil, Nat.reduceAdd, Nat.reduceSub, List.replicate, List.cons_append, List.nil_append])
    (refine sW @hr (inI_ac m 256 511) ?_)
    (exact sR (fieldB_in hr))
  · obtain ⟨n, rfl, h0, h1⟩ := inR_nat hr
    (refine AC_begin (fun _ _ => Tryd.call24 _ _) Tryd.func24 rfl Tryd.ntmps24 Tryd.results24 (fun hwf => ?_); simp only [List.length_cons, List.length_nil, Nat.reduceAdd, Nat.reduceSub, List.replicate, List.cons_append, List.nil_append])
    (refine sW @hr (inI_ac n 256 511) ?_)
    refine WA_forHJ (fun k => fieldAll n (2 ^ (k + 1) - 2) = true) (fun k => [(2, J), (3, .int .i64 (k + 1)), (4, J), (8, J), (9, J), (10, J), (11, J), (12, J), (13, J), (14, J), (15, J), (16, J), (17, J), (18, J), (19, J), (20, J), (21, J), (22, J), (23, J), (24, J)]) (fun k => h) (4) ?_ ?_ ?_ ?_ <;> (try simp only [patT_cons, patT_nil, patL_cons, patL_nil, list_set_zero, list_set_succ, blk_set_zero, blk_set_succ])
    · exact fieldAll_0 n
    · (exact sS0)
    · intro k hk hJ
      have hp : 2 ≤ 2 ^ (k + 1) := Nat.le_trans (by omega) (Nat.pow_le_pow_right (n := 2) (by omega) (show 1 ≤ k + 1 by omega))
      have hp' : 2 ^ (k + 1) ≤ 2 ^ 4 := Nat.pow_le_pow_right (n := 2) (by omega) (by omega)
      have e1 : 1 <<< (k + 1) = 2 ^ (k + 1) := by rw [Nat.shiftLeft_eq, Nat.one_mul]
      have e2 : 2 <<< (k + 1) = 2 * 2 ^ (k + 1) := by rw [Nat.shiftLeft_eq]
      have s1 : (1 : Int) * 2 ^ min (k + 1) 64 = ((2 ^ (k + 1) : Nat) : Int) := by rw [← e1, ← shl_64 (by omega)]; rfl
      have s2 : (2 : Int) * 2 ^ min (k + 1) 64 = ((2 * 2 ^ (k + 1) : Nat) : Int) := by rw [← e2, ← shl_64 (by omega)]; rfl
      have h4 : 2 ^ (k + 1 + 1) = 2 * 2 ^ (k + 1) := by rw [Nat.pow_succ, Nat.mul_comm]
      rw [h4]
      have hbl : ∀ i, i < 2 ^ (k + 1) → blen (2 ^ (k + 1) + i) - 1 = k + 1 := fun i hi => by rw [blen_eq (k := k + 1) (by omega) (by omega)]; omega
      generalize hq : 2 ^ (k + 1) = q at *
      clear hq
      (refine sN (And.intro @s1 @s2) ?_)
      refine WA_forHJ (fun k => fieldAll n (q - 2 + k) = true) (fun k => [(2, J), (4, .int .i64 (q + k)), (14, J), (15, J), (16, J), (17, J), (18, J), (19, J), (20, J), (21, J), (22, J), (23, J), (24, J)]) (fun k => h) (q) ?_ ?_ ?_ ?_ <;> (try simp only [patT_cons, patT_nil, patL_cons, patL_nil, list_set_zero, list_set_succ, blk_set_zero, blk_set_succ])
      · exact hJ
      · (exact sS0)
      · intro j hj hJ
        have hlt := restN_lt5 (m := n) (d := q + j) (g := k + 1) h1 (by omega) (by omega)
        cases hz : restN (q + j) (k + 1) n == 0
        · (refine sW (And.intro @hz (And.intro @s1 @s2)) (restI_ac h1 (d := q + j) (g := k + 1) (by omega) (by omega) (by omega)) ?_)
          refine ⟨fieldAll_s hJ ?_, ?_⟩
          · show restN (q - 2 + j + 2) (blen (q - 2 + j + 2) - 1) n ≠ 0
            rw [show q - 2 + j + 2 = q + j by omega, hbl j hj]; simpa using hz
          · (exact sS @Int.add_assoc)
        · (refine sW (And.intro @hz (And.intro @s1 @s2)) (restI_ac h1 (d := q + j) (g := k + 1) (by omega) (by omega) (by omega)) ?_)
          have hf : restN (q - 2 + j + 2) (blen (q - 2 + j + 2) - 1) n = 0 := by
            rw [show q - 2 + j + 2 = q + j by omega, hbl j hj]; simpa using hz
          have hf2 := fieldAll_f (n := q - 2 + j) (by omega) hf
          (exact sR (And.intro (fieldB_eq h0 h1) @hf2))
      · intro hJ
        have : decide (q + q < 2 * q) = false := decide_eq_false (by omega)
        (refine sN (And.intro @s1 (And.intro @s2 @this)) ?_)
        refine ⟨?_, ?_⟩
        · rw [show 2 * q - 2 = q - 2 + q by omega]; exact hJ
        · (exact sS @Int.add_assoc)
    · intro hJ
      (refine sN0 ?_)
      (exact sR (And.intro (fieldB_eq h0 h1) @hJ))

end Go.Proofs.YtalbdgkbinndlaaDoor
