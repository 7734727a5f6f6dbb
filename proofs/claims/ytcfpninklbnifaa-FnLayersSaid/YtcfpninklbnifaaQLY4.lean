/- A part of the proof of FnLayers. -/
import Derived.Test.YtcfpninklbnifaaQLYH
import Derived.Test.YtcfpninklbnifaaQLY0
import Derived.Test.YtcfpninklbnifaaQLY2
import Derived.Test.YtcfpninklbnifaaQLY3
/- Draws of ciphers. -/
namespace Go.Proofs.Ytcfpninklbnifaa
set_option linter.unusedSimpArgs false
set_option linter.unusedVariables false
set_option maxRecDepth 20000
set_option maxHeartbeats 1000000
open Go.Abs

/-- The matrix that is taken if the drawn one has no inverse. -/
def lowM (z : UInt8) : Nat → UInt8 := fun i => if i % 5 = 0 then 1 else if i = 12 then z else 0
theorem r4_0 (x : Value) : splice (Bs 4 fun _ => 0) 0 [x] = [x, B 0, B 0, B 0] := rfl
theorem r4_1 (a b c d x : Value) : splice [a, b, c, d] 1 [x] = [a, x, c, d] := rfl
theorem r4_2 (a b c d x : Value) : splice [a, b, c, d] 2 [x] = [a, b, x, d] := rfl
theorem r4_3 (a b c d x : Value) : splice [a, b, c, d] 3 [x] = [a, b, c, x] := rfl
theorem m16_0 (a b c d : Value) : splice (Bs 16 fun _ => 0) (0 * 4) [a, b, c, d] = [a, b, c, d, B 0, B 0, B 0, B 0, B 0, B 0, B 0, B 0, B 0, B 0, B 0, B 0] := rfl
theorem m16_1 (e0 e1 e2 e3 e4 e5 e6 e7 e8 e9 e10 e11 e12 e13 e14 e15 a b c d : Value) : splice [e0, e1, e2, e3, e4, e5, e6, e7, e8, e9, e10, e11, e12, e13, e14, e15] 4 [a, b, c, d] = [e0, e1, e2, e3, a, b, c, d, e8, e9, e10, e11, e12, e13, e14, e15] := rfl
theorem m16_2 (e0 e1 e2 e3 e4 e5 e6 e7 e8 e9 e10 e11 e12 e13 e14 e15 a b c d : Value) : splice [e0, e1, e2, e3, e4, e5, e6, e7, e8, e9, e10, e11, e12, e13, e14, e15] (2 * 4) [a, b, c, d] = [e0, e1, e2, e3, e4, e5, e6, e7, a, b, c, d, e12, e13, e14, e15] := rfl
theorem m16_3 (e0 e1 e2 e3 e4 e5 e6 e7 e8 e9 e10 e11 e12 e13 e14 e15 a b c d : Value) : splice [e0, e1, e2, e3, e4, e5, e6, e7, e8, e9, e10, e11, e12, e13, e14, e15] (3 * 4) [a, b, c, d] = [e0, e1, e2, e3, e4, e5, e6, e7, e8, e9, e10, e11, a, b, c, d] := rfl
theorem lowM_is (z : UInt8) : ([B 1, B 0, B 0, B 0, B 0, B 1, B 0, B 0, B 0, B 0, B 1, B 0, B z, B 0, B 0, B 1] : List Value) = Bs 16 (lowM z) := rfl
set_option maxHeartbeats 8000000 in
theorem l04Draw_aft {h : List Blk} {b : Nat} {cv : Value} (s : SrcAt h b cv) :
    ∃ (m : Int) (bx mx pl : Nat → UInt8) (r : Int) (h' : List Blk), (0 ≤ r ∧ r ≤ 1000) ∧ Aft h h' b cv ∧ AC Try.prog 106 [pt b 0] h (.agg (Ci m bx mx pl r).toArray) h' := by
  have hbl := s.lt
  have a0 := s.more [⟨Ci 0 zeroF zeroF zeroF 0, true⟩]
  obtain ⟨x, h1, hx, a1, c1⟩ := next_aft a0.src (N := 20) (by omega) (by omega)
  obtain ⟨v, h2, hv, a2, c2⟩ := pickL_aft a1.src [.int .i64 0, .int .i64 1, .int .i64 2, .int .i64 3, .int .i64 5, .int .i64 9, .int .i64 x] (n := 7) rfl rfl (by omega) (by omega)
  obtain ⟨e, rfl, he⟩ : ∃ e : Nat, v = e ∧ e ≤ 20 := by
    obtain ⟨i, hi, e⟩ := hv
    match i, hi, e with
    | 0, _, e => cases e; exact ⟨0, rfl, by omega⟩
    | 1, _, e => cases e; exact ⟨1, rfl, by omega⟩
    | 2, _, e => cases e; exact ⟨2, rfl, by omega⟩
    | 3, _, e => cases e; exact ⟨3, rfl, by omega⟩
    | 4, _, e => cases e; exact ⟨5, rfl, by omega⟩
    | 5, _, e => cases e; exact ⟨9, rfl, by omega⟩
    | 6, _, e => cases e; exact ⟨x, rfl, by omega⟩
    | n + 7, h, _ => exact absurd h (by omega)
  obtain ⟨r, hr⟩ : ∃ r : Int, r = ((1 + e : Nat) : Int) := ⟨_, rfl⟩
  have a3 := a2.src.more [⟨Ci 285 hBoxF hMixF hPlF r, true⟩]
  obtain ⟨y, h3, hy, a4, c3⟩ := next_aft a3.src (N := 2) (by omega) (by omega)
  have A4 := (((a0.trans a1).trans a2).trans a3).trans a4
  have l2 := a2.src.lt
  have hR2 := (a1.trans a2).keep h.length ⟨Ci 0 zeroF zeroF zeroF 0, true⟩ (by omega) (by simp)
  have hlt := blt hR2
  have hR4 := (a3.trans a4).keep _ _ (by omega) hR2
  have hC4 := a4.keep h2.length ⟨Ci 285 hBoxF hMixF hPlF r, true⟩ (by omega) (by simp)
  have hw1 : IntKind.i64.wrap (1 + (e : Int)) = r := by rw [hr, show (1 + (e : Int)) = ((1 + e : Nat) : Int) by omega]; exact wrap_N (by omega)
  have hrs := hr.symm
  have hr0 : 0 ≤ r ∧ r ≤ 1000 := by omega
  by_cases hy0 : y = 0
  · subst hy0
    have hlen := A4.len
    refine ⟨285, hBoxF, hMixF, hPlF, r, h3.set h.length ⟨Ci 285 hBoxF hMixF hPlF r, true⟩, hr0, A4.set s (Nat.le_refl _) _, ?_⟩
    (refine AC_begin (fun _ _ => Try.call106 _ _) Try.func106 rfl Try.ntmps106 Try.results106 (fun hwf => ?_); simp only [List.length_cons, List.length_nil, Nat.reduceAdd, Nat.reduceSub, List.replicate, List.cons_append, List.nil_append])
    (repeat (first | ((first | (refine And.intro ?_ ?_; focus exact PLA) | ((first | with_reducible apply callB_i | with_reducible apply callK_intro | with_reducible apply callQ_i); (focus (first | assumption | ((first | with_reducible apply c1 | with_reducible apply c2 | with_reducible apply c3 | with_reducible apply houseS_ac) <;> (first | assumption | rfl | (simp (disch := omega) only [go_sem]; first | done | rfl) | omega | decide | (simp; done))))); (try exact WP_au)) | refine WA_seq (WA_region ?_) | refine WA_region ?_ | refine WA_exit ?_); try simp (maxSteps := 1000000) (disch := first | omega | rfl | decide | (simp only [List.length_cons, List.length_nil, List.length_append, LV] <;> omega)) only [go_sem, Nat.reduceAdd, Int.reduceAdd, Int.reduceSub, Int.reduceMul, Bool.not_true, Bool.not_false, beq_self_eq_true, hw1, hrs, Ci_splice0, Ci_splice1, Ci_splice2, Ci_splice4, Ci_splice_all, hR4, hC4]) | refine WA_seq ?_ | refine WA_block ?_ | (refine WA_skip ?_; try simp only [go_sem]) | (refine WA_ret ?_; try simp only [go_sem]) | refine WA_ct rfl ?_ | refine WA_cf rfl ?_))
    refine ret_full (by first | exact .inr rfl | exact .inl rfl) (by simpa using hlen) ?_
    simp (maxSteps := 1000000) (disch := first | omega | rfl | decide | (simp only [List.length_cons, List.length_nil, List.length_append, LV] <;> omega)) only [go_sem, Nat.reduceAdd, Int.reduceAdd, Int.reduceSub, Int.reduceMul, Bool.not_true, Bool.not_false, look_set (blt hR4)]
    try rfl
  · have hyb : (y == 0) = false := by simpa using hy0
    have hlh : h.length < h2.length := hlt
    have hbc : h2.length ≠ b := by omega
    obtain ⟨n, h5, hn, a5, c5⟩ := drawFld_aft a4.src
    obtain ⟨g0, g1⟩ := fieldB_lt hn
    have hC5 := a5.keep _ _ hbc hC4
    have hR5 := a5.keep _ _ (by omega) hR4
    have A5 := (A4.trans a5).set s (show h.length ≤ h2.length by omega) ⟨Ci n hBoxF hMixF hPlF r, true⟩
    have hC5' := look_set (x := ⟨Ci n hBoxF hMixF hPlF r, true⟩) (blt hC5)
    have hR5' := set_at (x := ⟨Ci n hBoxF hMixF hPlF r, true⟩) hR5 (show h2.length ≠ h.length by omega)
    obtain ⟨f, h6, a6, c6⟩ := l02Draw_aft A5.src
    have hC6 := a6.keep _ _ hbc hC5'
    have hR6 := a6.keep _ _ (by omega) hR5'
    have A6 := (A5.trans a6).set s (show h.length ≤ h2.length by omega) ⟨Ci n f hMixF hPlF r, true⟩
    have hC6' := look_set (x := ⟨Ci n f hMixF hPlF r, true⟩) (blt hC6)
    have hR6' := set_at (x := ⟨Ci n f hMixF hPlF r, true⟩) hR6 (show h2.length ≠ h.length by omega)
    obtain ⟨q, h7, hq, a7, c7⟩ := next_aft A6.src (N := 4) (by omega) (by omega)
    have A7 := A6.trans a7
    obtain ⟨st, e0, hI, hRt⟩ := seq_ex (S := List Blk × (Nat → UInt8)) (n := q)
      (I := fun _ s => s.1[h2.length]? = some ⟨Ci n f s.2 hPlF r, true⟩ ∧ s.1[h.length]? = some ⟨Ci 0 zeroF zeroF zeroF 0, true⟩ ∧ Aft h s.1 b cv)
      (R := fun _ s t => ∃ (i j z : Nat) (M1 M2 M3 : List Blk), i < 4 ∧ j < 4 ∧ z < 256 ∧ AC Try.prog 53 [pt b 0, .int .i64 ((4 : Nat) : Int)] s.1 (.int .i64 i) M1 ∧ AC Try.prog 53 [pt b 0, .int .i64 ((4 : Nat) : Int)] M1 (.int .i64 j) M2 ∧ AC Try.prog 53 [pt b 0, .int .i64 ((256 : Nat) : Int)] M2 (.int .i64 z) M3 ∧ M3[h2.length]? = some ⟨Ci n f s.2 hPlF r, true⟩ ∧ t = (M3.set h2.length ⟨Ci n f (upd s.2 (i * 4 + j) (UInt8.ofNat z)) hPlF r, true⟩, upd s.2 (i * 4 + j) (UInt8.ofNat z)))
      (h7, hMixF) ⟨a7.keep _ _ hbc hC6', a7.keep _ _ (by omega) hR6', A7⟩ (fun k hk s0 ⟨i1, i2, i3⟩ => by
        obtain ⟨i, M1, hi, r1, d1⟩ := next_aft i3.src (N := 4) (by omega) (by omega)
        obtain ⟨j, M2, hj, r2, d2⟩ := next_aft r1.src (N := 4) (by omega) (by omega)
        obtain ⟨z, M3, hz, r3, d3⟩ := next_aft r2.src (N := 256) (by omega) (by omega)
        have a := (r1.trans r2).trans r3
        have j1 := a.keep _ _ hbc i1
        have j2 := a.keep _ _ (by omega) i2
        exact ⟨_, ⟨look_set (blt j1), set_at j2 (by omega), (i3.trans a).set s (by omega) _⟩, i, j, z, M1, M2, M3, hi, hj, hz, d1, d2, d3, j1, rfl⟩)
    obtain ⟨f1, f2, f3⟩ := hI q (Nat.le_refl _)
    obtain ⟨mq, hmq⟩ : ∃ mq, mq = (st q).2 := ⟨_, rfl⟩
    obtain ⟨Mq, hMq⟩ : ∃ Mq, Mq = (st q).1 := ⟨_, rfl⟩
    rw [← hmq, ← hMq] at f1
    rw [← hMq] at f2 f3
    have hw1' := hw1
    have a8 := f3.src.more [⟨Bs 16 (backF n mq), true⟩]
    have hC8 := look_old f1 [⟨Bs 16 (backF n mq), true⟩]
    have hR8 := look_old f2 [⟨Bs 16 (backF n mq), true⟩]
    cases hdet : (detF n mq != 0)
    · obtain ⟨z, h9, hz, a9, c9⟩ := next_aft a8.src (N := 256) (by omega) (by omega)
      have hC9 := a9.keep _ _ hbc hC8
      have hR9 := a9.keep _ _ (by omega) hR8
      have A9 := ((f3.trans a8).trans a9).set s (show h.length ≤ h2.length by omega) ⟨Ci n f (lowM (UInt8.ofNat z)) hPlF r, true⟩
      have hC9' := look_set (x := ⟨Ci n f (lowM (UInt8.ofNat z)) hPlF r, true⟩) (blt hC9)
      have hR9' := set_at (x := ⟨Ci n f (lowM (UInt8.ofNat z)) hPlF r, true⟩) hR9 (show h2.length ≠ h.length by omega)
      obtain ⟨i, h10, hi, a10, c10⟩ := next_aft A9.src (N := 16) (by omega) (by omega)
      obtain ⟨j, h11, hj, a11, c11⟩ := next_aft a10.src (N := 16) (by omega) (by omega)
      have A11 := (A9.trans a10).trans a11
      have hC11 := (a10.trans a11).keep _ _ hbc hC9'
      have hR11 := (a10.trans a11).keep _ _ (by omega) hR9'
      have hR12 := set_at (x := ⟨Ci n f (lowM (UInt8.ofNat z)) (upd (upd hPlF i (hPlF j)) j (hPlF i)) r, true⟩) hR11 (show h2.length ≠ h.length by omega)
      have hlen := A11.len
      refine ⟨n, f, lowM (UInt8.ofNat z), upd (upd hPlF i (hPlF j)) j (hPlF i), r, (h11.set h2.length ⟨Ci n f (lowM (UInt8.ofNat z)) (upd (upd hPlF i (hPlF j)) j (hPlF i)) r, true⟩).set h.length ⟨Ci n f (lowM (UInt8.ofNat z)) (upd (upd hPlF i (hPlF j)) j (hPlF i)) r, true⟩, hr0, (A11.set s (by omega) _).set s (Nat.le_refl _) _, ?_⟩
      (refine AC_begin (fun _ _ => Try.call106 _ _) Try.func106 rfl Try.ntmps106 Try.results106 (fun hwf => ?_); simp only [List.length_cons, List.length_nil, Nat.reduceAdd, Nat.reduceSub, List.replicate, List.cons_append, List.nil_append])
      (repeat (first | ((first | (refine And.intro ?_ ?_; focus exact PLA) | ((first | with_reducible apply callB_i | with_reducible apply callK_intro | with_reducible apply callQ_i); (focus (first | assumption | ((first | with_reducible apply c1 | with_reducible apply c2 | with_reducible apply c3 | with_reducible apply houseS_ac | with_reducible apply c5 | with_reducible apply c6 | with_reducible apply c7) <;> (first | assumption | rfl | (simp (disch := omega) only [go_sem]; first | done | rfl) | omega | decide | (simp; done))))); (try exact WP_au)) | refine WA_seq (WA_region ?_) | refine WA_region ?_ | refine WA_exit ?_); try simp (maxSteps := 1000000) (disch := first | omega | rfl | decide | (simp only [List.length_cons, List.length_nil, List.length_append, LV] <;> omega)) only [go_sem, Nat.reduceAdd, Int.reduceAdd, Int.reduceSub, Int.reduceMul, Bool.not_true, Bool.not_false, hyb, hw1, hrs, Ci_splice0, Ci_splice1, Ci_splice2, Ci_splice4, Ci_splice_all, hR4, hC4, hC5, hC6]) | refine WA_seq ?_ | refine WA_block ?_ | (refine WA_skip ?_; try simp only [go_sem]) | (refine WA_ret ?_; try simp only [go_sem]) | refine WA_ct rfl ?_ | refine WA_cf rfl ?_))
      refine WA_forH (fun k => [(4, .int .i64 ((q - k : Nat))), (29, J), (30, J), (31, J), (32, J), (33, J), (34, J), (35, J), (36, J), (37, J), (38, J), (39, J), (40, J), (41, J), (42, J)]) (fun k => (st k).1) (q) ?_ ?_ ?_ <;> (try simp only [patT_cons, patT_nil, patL_cons, patL_nil, list_set_zero, list_set_succ, blk_set_zero, blk_set_succ])
      · have e1 : (st 0).1 = h7 := by rw [e0]
        have l1 := A7.len
        rw [e1]
        (refine Drop_slots (by first | assumption | exact Nat.le_refl _) ?_; focus ((try simp only [JL_same, JL_J, JL_nil, Int.reduceAdd, Nat.sub_sub, Int.natCast_add, Int.natCast_one, Int.natCast_zero, Int.cast_ofNat_Int, Nat.add_zero, Bool.false_eq_true, if_false, if_true]); (try exact JL_refl _)))
      · intro k hk
        obtain ⟨i, j, z, M1, M2, M3, hi, hj, hz, d1, d2, d3, j1, e⟩ := hRt k hk
        have l1 := (hI (k + 1) hk).2.2.len
        rw [e] at l1 ⊢
        (repeat (first | ((first | (refine And.intro ?_ ?_; focus exact PLA) | ((first | with_reducible apply callB_i | with_reducible apply callK_intro | with_reducible apply callQ_i); (focus (first | assumption | ((first | with_reducible apply d1 | with_reducible apply d2 | with_reducible apply d3) <;> (first | assumption | rfl | (simp (disch := omega) only [go_sem]; first | done | rfl) | omega | decide | (simp; done))))); (try exact WP_au)) | refine WA_seq (WA_region ?_) | refine WA_region ?_ | refine WA_exit ?_); try simp (maxSteps := 1000000) (disch := first | omega | rfl | decide | (simp only [List.length_cons, List.length_nil, List.length_append, LV] <;> omega)) only [go_sem, Nat.reduceAdd, Int.reduceAdd, Int.reduceSub, Int.reduceMul, Bool.not_true, Bool.not_false, j1, decide_eq_true (show 0 < q - k by omega)]) | (refine (WA_rb (id := 9) [1, 3, 5, 10] (SubM.refl _) mixedOk ?_); simp only [List.size_toArray, List.length_cons, List.length_nil]; (repeat (first | ((first | (refine And.intro ?_ ?_; focus exact PLA) | ((first | with_reducible apply callB_i | with_reducible apply callK_intro | with_reducible apply callQ_i); (focus (first | assumption | ((first | with_reducible apply d1 | with_reducible apply d2 | with_reducible apply d3) <;> (first | assumption | rfl | (simp (disch := omega) only [go_sem]; first | done | rfl) | omega | decide | (simp; done))))); (try exact WP_au)) | refine RB_take false [0, 2, 4, 7] 7 (by rfl) (by kernel_rfl) (by decide) (by decide +kernel) ?_ | refine RB_exec 1 _ (by rfl) (by decide +kernel) (by decide +kernel) ?_ | refine RB_take false [8] 5 (by rfl) (by kernel_rfl) (by decide) (by decide +kernel) ?_ | refine RB_exec 3 _ (by rfl) (by decide +kernel) (by decide +kernel) ?_ | refine RB_exec 5 _ (by rfl) (by decide +kernel) (by decide +kernel) ?_ | refine RB_take false [6, 9] 1 (by rfl) (by kernel_rfl) (by decide) (by decide +kernel) ?_ | refine RB_exec 10 _ (by rfl) (by decide +kernel) (by decide +kernel) ?_ | refine RB_done (by decide +kernel) ?_); try simp (maxSteps := 1000000) (disch := first | omega | rfl | decide | (simp only [List.length_cons, List.length_nil, List.length_append, LV] <;> omega)) only [go_sem, Nat.reduceAdd, Int.reduceAdd, Int.reduceSub, Int.reduceMul, Bool.not_true, Bool.not_false, j1, decide_eq_true (show 0 < q - k by omega)])))) | refine WA_seq ?_ | refine WA_block ?_ | (refine WA_skip ?_; try simp only [go_sem]) | (refine WA_ret ?_; try simp only [go_sem]) | refine WA_ct rfl ?_ | refine WA_cf rfl ?_))
        all_goals (refine Drop_slots (by first | assumption | exact Nat.le_refl _) ?_; focus ((try simp only [JL_same, JL_J, JL_nil, Int.reduceAdd, Nat.sub_sub, Int.natCast_add, Int.natCast_one, Int.natCast_zero, Int.cast_ofNat_Int, Nat.add_zero, Bool.false_eq_true, if_false, if_true]); (try exact JL_refl _)))
      · rw [← hMq]
        (repeat (first | ((first | (refine And.intro ?_ ?_; focus exact PLA) | ((first | with_reducible apply callB_i | with_reducible apply callK_intro | with_reducible apply callQ_i); (focus (first | assumption | ((first | with_reducible apply inverseS_ac g0 g1 | with_reducible apply c9 | with_reducible apply c10 | with_reducible apply c11) <;> (first | assumption | rfl | (simp (disch := omega) only [go_sem]; first | done | rfl) | omega | decide | (simp; done))))); (try exact WP_au)) | refine WA_seq (WA_region ?_) | refine WA_region ?_ | refine WA_exit ?_); try simp (maxSteps := 1000000) (disch := first | omega | rfl | decide | (simp only [List.length_cons, List.length_nil, List.length_append, LV] <;> omega)) only [go_sem, Nat.reduceAdd, Int.reduceAdd, Int.reduceSub, Int.reduceMul, Bool.not_true, Bool.not_false, Ci_splice2, Ci_splice3, Ci_splice_all, f1, hC8, hdet, r4_0, r4_1, r4_2, r4_3, m16_0, m16_1, m16_2, m16_3, lowM_is, Bool.not_false, Nat.sub_self, hC9, hC11, look_set (blt hC11), List.set_set, hR12]) | refine WA_seq ?_ | refine WA_block ?_ | (refine WA_skip ?_; try simp only [go_sem]) | (refine WA_ret ?_; try simp only [go_sem]) | refine WA_ct rfl ?_ | refine WA_cf rfl ?_))
        refine ret_full (by first | exact .inr rfl | exact .inl rfl) (by simpa using hlen) ?_
        simp (maxSteps := 1000000) (disch := first | omega | rfl | decide | (simp only [List.length_cons, List.length_nil, List.length_append, LV] <;> omega)) only [go_sem, Nat.reduceAdd, Int.reduceAdd, Int.reduceSub, Int.reduceMul, Bool.not_true, Bool.not_false, look_set (blt hR12)]
        try rfl
    · obtain ⟨i, h10, hi, a10, c10⟩ := next_aft a8.src (N := 16) (by omega) (by omega)
      obtain ⟨j, h11, hj, a11, c11⟩ := next_aft a10.src (N := 16) (by omega) (by omega)
      have A11 := ((f3.trans a8).trans a10).trans a11
      have hC11 := (a10.trans a11).keep _ _ hbc hC8
      have hR11 := (a10.trans a11).keep _ _ (by omega) hR8
      have hR12 := set_at (x := ⟨Ci n f mq (upd (upd hPlF i (hPlF j)) j (hPlF i)) r, true⟩) hR11 (show h2.length ≠ h.length by omega)
      have hlen := A11.len
      refine ⟨n, f, mq, upd (upd hPlF i (hPlF j)) j (hPlF i), r, (h11.set h2.length ⟨Ci n f mq (upd (upd hPlF i (hPlF j)) j (hPlF i)) r, true⟩).set h.length ⟨Ci n f mq (upd (upd hPlF i (hPlF j)) j (hPlF i)) r, true⟩, hr0, (A11.set s (by omega) _).set s (Nat.le_refl _) _, ?_⟩
      (refine AC_begin (fun _ _ => Try.call106 _ _) Try.func106 rfl Try.ntmps106 Try.results106 (fun hwf => ?_); simp only [List.length_cons, List.length_nil, Nat.reduceAdd, Nat.reduceSub, List.replicate, List.cons_append, List.nil_append])
      (repeat (first | ((first | (refine And.intro ?_ ?_; focus exact PLA) | ((first | with_reducible apply callB_i | with_reducible apply callK_intro | with_reducible apply callQ_i); (focus (first | assumption | ((first | with_reducible apply c1 | with_reducible apply c2 | with_reducible apply c3 | with_reducible apply houseS_ac | with_reducible apply c5 | with_reducible apply c6 | with_reducible apply c7) <;> (first | assumption | rfl | (simp (disch := omega) only [go_sem]; first | done | rfl) | omega | decide | (simp; done))))); (try exact WP_au)) | refine WA_seq (WA_region ?_) | refine WA_region ?_ | refine WA_exit ?_); try simp (maxSteps := 1000000) (disch := first | omega | rfl | decide | (simp only [List.length_cons, List.length_nil, List.length_append, LV] <;> omega)) only [go_sem, Nat.reduceAdd, Int.reduceAdd, Int.reduceSub, Int.reduceMul, Bool.not_true, Bool.not_false, hyb, hw1, hrs, Ci_splice0, Ci_splice1, Ci_splice2, Ci_splice4, Ci_splice_all, hR4, hC4, hC5, hC6]) | refine WA_seq ?_ | refine WA_block ?_ | (refine WA_skip ?_; try simp only [go_sem]) | (refine WA_ret ?_; try simp only [go_sem]) | refine WA_ct rfl ?_ | refine WA_cf rfl ?_))
      refine WA_forH (fun k => [(4, .int .i64 ((q - k : Nat))), (29, J), (30, J), (31, J), (32, J), (33, J), (34, J), (35, J), (36, J), (37, J), (38, J), (39, J), (40, J), (41, J), (42, J)]) (fun k => (st k).1) (q) ?_ ?_ ?_ <;> (try simp only [patT_cons, patT_nil, patL_cons, patL_nil, list_set_zero, list_set_succ, blk_set_zero, blk_set_succ])
      · have e1 : (st 0).1 = h7 := by rw [e0]
        have l1 := A7.len
        rw [e1]
        (refine Drop_slots (by first | assumption | exact Nat.le_refl _) ?_; focus ((try simp only [JL_same, JL_J, JL_nil, Int.reduceAdd, Nat.sub_sub, Int.natCast_add, Int.natCast_one, Int.natCast_zero, Int.cast_ofNat_Int, Nat.add_zero, Bool.false_eq_true, if_false, if_true]); (try exact JL_refl _)))
      · intro k hk
        obtain ⟨i, j, z, M1, M2, M3, hi, hj, hz, d1, d2, d3, j1, e⟩ := hRt k hk
        have l1 := (hI (k + 1) hk).2.2.len
        rw [e] at l1 ⊢
        (repeat (first | ((first | (refine And.intro ?_ ?_; focus exact PLA) | ((first | with_reducible apply callB_i | with_reducible apply callK_intro | with_reducible apply callQ_i); (focus (first | assumption | ((first | with_reducible apply d1 | with_reducible apply d2 | with_reducible apply d3) <;> (first | assumption | rfl | (simp (disch := omega) only [go_sem]; first | done | rfl) | omega | decide | (simp; done))))); (try exact WP_au)) | refine WA_seq (WA_region ?_) | refine WA_region ?_ | refine WA_exit ?_); try simp (maxSteps := 1000000) (disch := first | omega | rfl | decide | (simp only [List.length_cons, List.length_nil, List.length_append, LV] <;> omega)) only [go_sem, Nat.reduceAdd, Int.reduceAdd, Int.reduceSub, Int.reduceMul, Bool.not_true, Bool.not_false, j1, decide_eq_true (show 0 < q - k by omega)]) | (refine (WA_rb (id := 9) [1, 3, 5, 10] (SubM.refl _) mixedOk ?_); simp only [List.size_toArray, List.length_cons, List.length_nil]; (repeat (first | ((first | (refine And.intro ?_ ?_; focus exact PLA) | ((first | with_reducible apply callB_i | with_reducible apply callK_intro | with_reducible apply callQ_i); (focus (first | assumption | ((first | with_reducible apply d1 | with_reducible apply d2 | with_reducible apply d3) <;> (first | assumption | rfl | (simp (disch := omega) only [go_sem]; first | done | rfl) | omega | decide | (simp; done))))); (try exact WP_au)) | refine RB_take false [0, 2, 4, 7] 7 (by rfl) (by kernel_rfl) (by decide) (by decide +kernel) ?_ | refine RB_exec 1 _ (by rfl) (by decide +kernel) (by decide +kernel) ?_ | refine RB_take false [8] 5 (by rfl) (by kernel_rfl) (by decide) (by decide +kernel) ?_ | refine RB_exec 3 _ (by rfl) (by decide +kernel) (by decide +kernel) ?_ | refine RB_exec 5 _ (by rfl) (by decide +kernel) (by decide +kernel) ?_ | refine RB_take false [6, 9] 1 (by rfl) (by kernel_rfl) (by decide) (by decide +kernel) ?_ | refine RB_exec 10 _ (by rfl) (by decide +kernel) (by decide +kernel) ?_ | refine RB_done (by decide +kernel) ?_); try simp (maxSteps := 1000000) (disch := first | omega | rfl | decide | (simp only [List.length_cons, List.length_nil, List.length_append, LV] <;> omega)) only [go_sem, Nat.reduceAdd, Int.reduceAdd, Int.reduceSub, Int.reduceMul, Bool.not_true, Bool.not_false, j1, decide_eq_true (show 0 < q - k by omega)])))) | refine WA_seq ?_ | refine WA_block ?_ | (refine WA_skip ?_; try simp only [go_sem]) | (refine WA_ret ?_; try simp only [go_sem]) | refine WA_ct rfl ?_ | refine WA_cf rfl ?_))
        all_goals (refine Drop_slots (by first | assumption | exact Nat.le_refl _) ?_; focus ((try simp only [JL_same, JL_J, JL_nil, Int.reduceAdd, Nat.sub_sub, Int.natCast_add, Int.natCast_one, Int.natCast_zero, Int.cast_ofNat_Int, Nat.add_zero, Bool.false_eq_true, if_false, if_true]); (try exact JL_refl _)))
      · rw [← hMq]
        (repeat (first | ((first | (refine And.intro ?_ ?_; focus exact PLA) | ((first | with_reducible apply callB_i | with_reducible apply callK_intro | with_reducible apply callQ_i); (focus (first | assumption | ((first | with_reducible apply inverseS_ac g0 g1 | with_reducible apply c10 | with_reducible apply c11) <;> (first | assumption | rfl | (simp (disch := omega) only [go_sem]; first | done | rfl) | omega | decide | (simp; done))))); (try exact WP_au)) | refine WA_seq (WA_region ?_) | refine WA_region ?_ | refine WA_exit ?_); try simp (maxSteps := 1000000) (disch := first | omega | rfl | decide | (simp only [List.length_cons, List.length_nil, List.length_append, LV] <;> omega)) only [go_sem, Nat.reduceAdd, Int.reduceAdd, Int.reduceSub, Int.reduceMul, Bool.not_true, Bool.not_false, Ci_splice2, Ci_splice3, Ci_splice_all, f1, hC8, hdet, Bool.not_true, Nat.sub_self, hC11, look_set (blt hC11), List.set_set, hR12]) | refine WA_seq ?_ | refine WA_block ?_ | (refine WA_skip ?_; try simp only [go_sem]) | (refine WA_ret ?_; try simp only [go_sem]) | refine WA_ct rfl ?_ | refine WA_cf rfl ?_))
        refine ret_full (by first | exact .inr rfl | exact .inl rfl) (by simpa using hlen) ?_
        simp (maxSteps := 1000000) (disch := first | omega | rfl | decide | (simp only [List.length_cons, List.length_nil, List.length_append, LV] <;> omega)) only [go_sem, Nat.reduceAdd, Int.reduceAdd, Int.reduceSub, Int.reduceMul, Bool.not_true, Bool.not_false, look_set (blt hR12)]
        try rfl

end Go.Proofs.Ytcfpninklbnifaa
/- Products in fields: laws of rings; permutations of finite sets. Plain Lean. -/
namespace Go.Proofs.Ytcfpninklbnifaa
set_option linter.unusedSimpArgs false
set_option linter.unusedVariables false
set_option maxRecDepth 20000
set_option maxHeartbeats 1000000
open Go.Abs

theorem inj_surj : ∀ (n : Nat) (g : Nat → Nat), (∀ i, i < n → g i < n) → (∀ i j, i < n → j < n → g i = g j → i = j) → ∀ y, y < n → ∃ i, i < n ∧ g i = y
  | 0, _, _, _, y, hy => absurd hy (Nat.not_lt_zero y)
  | n + 1, g, hr, hi, y, hy => by
    by_cases hv : g n = n
    · by_cases hyn : y = n
      · exact ⟨n, by omega, by omega⟩
      · obtain ⟨i, h1, h2⟩ := inj_surj n g (fun i h => by
            have := hr i (by omega)
            rcases Nat.lt_or_ge (g i) n with h' | h'
            · exact h'
            · have := hi i n (by omega) (by omega) (by omega); omega) (fun i j h h' e => hi i j (by omega) (by omega) e) y (by omega)
        exact ⟨i, by omega, h2⟩
    · have hvn : g n < n := by have := hr n (by omega); omega
      have key := inj_surj n (fun i => if g i = n then g n else g i) (fun i h => by
          show (if g i = n then g n else g i) < n
          split
          · exact hvn
          · have := hr i (by omega); omega) (fun i j h h' e => by
          change (if g i = n then g n else g i) = (if g j = n then g n else g j) at e
          split at e <;> split at e
          · exact hi i j (by omega) (by omega) (by omega)
          · have := hi n j (by omega) (by omega) e; omega
          · have := hi i n (by omega) (by omega) e; omega
          · exact hi i j (by omega) (by omega) e)
      by_cases hy1 : y = g n
      · exact ⟨n, by omega, hy1.symm⟩
      · by_cases hyn : y = n
        · obtain ⟨i, h1, h2⟩ := key (g n) hvn
          change (if g i = n then g n else g i) = g n at h2
          split at h2
          · exact ⟨i, by omega, by omega⟩
          · have := hi i n (by omega) (by omega) h2; omega
        · obtain ⟨i, h1, h2⟩ := key y (by omega)
          change (if g i = n then g n else g i) = y at h2
          split at h2
          · exact absurd h2.symm hy1
          · exact ⟨i, by omega, h2⟩
theorem surj_inj (n : Nat) (g : Nat → Nat) (hr : ∀ i, i < n → g i < n) (hs : ∀ y, y < n → ∃ i, i < n ∧ g i = y) (i j : Nat) (h1 : i < n) (h2 : j < n) (e : g i = g j) : i = j := by
  have hc : ∀ y, ∃ i, y < n → i < n ∧ g i = y := fun y => by
    by_cases h : y < n
    · obtain ⟨i, hi⟩ := hs y h; exact ⟨i, fun _ => hi⟩
    · exact ⟨0, fun h' => absurd h' h⟩
  obtain ⟨k, hk⟩ := Classical.axiomOfChoice hc
  have hk' : ∀ y, y < n → k y < n ∧ g (k y) = y := hk
  have sj := inj_surj n k (fun i h => (hk' i h).1) (fun i j h h' e => by rw [← (hk' i h).2, ← (hk' j h').2, e])
  obtain ⟨y, hy, rfl⟩ := sj i h1
  obtain ⟨z, hz, rfl⟩ := sj j h2
  rw [(hk' y hy).2, (hk' z hz).2] at e; rw [e]
theorem mulP_xor (m a b c : Nat) : ∀ k, mulP m a (b ^^^ c) k = mulP m a b k ^^^ mulP m a c k
  | 0 => by simp [mulP]
  | k + 1 => by
    simp only [mulP, Nat.testBit_xor, mulP_xor m a b c k]
    cases b.testBit k <;> cases c.testBit k
    · rfl
    · simp only [Bool.false_xor, Bool.false_eq_true, if_true, if_false]; rw [Nat.xor_assoc]
    · simp only [Bool.xor_false, Bool.false_eq_true, if_true, if_false]; rw [Nat.xor_assoc, Nat.xor_assoc, Nat.xor_comm (mulP m a c k)]
    · simp only [Bool.xor_self, Bool.false_eq_true, if_true, if_false]
      rw [Nat.xor_assoc, Nat.xor_comm (dblN m a k), Nat.xor_assoc, Nat.xor_self, Nat.xor_zero]
theorem ofNat_xor (x y : Nat) : UInt8.ofNat (x ^^^ y) = UInt8.ofNat x ^^^ UInt8.ofNat y := by
  rw [← UInt8.toNat_inj, UInt8.toNat_xor]
  simp only [UInt8.toNat_ofNat']
  exact Nat.xor_mod_two_pow (n := 8)
theorem tm_xor (m : Nat) (a b c : UInt8) : tm m a (b ^^^ c) = tm m a b ^^^ tm m a c := by
  unfold tm mulN; rw [UInt8.toNat_xor, mulP_xor, ofNat_xor]
theorem pow_or {k l : Nat} (h : l < 2 ^ k) : 2 ^ k ||| l = 2 ^ k + l := by
  have := Nat.two_pow_add_eq_or_of_lt h 1; simpa using this.symm
theorem pow_xor {k l : Nat} (h : l < 2 ^ k) : 2 ^ k ^^^ l = 2 ^ k + l := by
  rw [← pow_or h]
  apply Nat.eq_of_testBit_eq
  intro i
  rw [Nat.testBit_xor, Nat.testBit_or, Nat.testBit_two_pow]
  by_cases hi : k = i
  · subst hi; rw [Nat.testBit_lt_two_pow h]; simp
  · simp [hi]
theorem tm_zeroR (m : Nat) (a : UInt8) : tm m a 0 = 0 := by
  have := tm_xor m a 0 0
  simpa using this

theorem xor_swap (a b c d : Nat) : (a ^^^ b) ^^^ (c ^^^ d) = (a ^^^ c) ^^^ (b ^^^ d) := by
  rw [Nat.xor_assoc, Nat.xor_assoc, ← Nat.xor_assoc b c d, ← Nat.xor_assoc c b d, Nat.xor_comm b c]
theorem ge_bit {x : Nat} (h : x < 256) : (256 ≤ 2 * x) ↔ x.testBit 7 = true := by
  constructor
  · intro h2; exact Nat.testBit_of_two_pow_le_and_two_pow_add_one_gt (i := 7) (by omega) (by omega)
  · intro h2
    have := Nat.ge_two_pow_of_testBit h2; omega
theorem dbl_bit (m : Nat) {x : Nat} (h : x < 256) : dbl m x = if x.testBit 7 then (2 * x) ^^^ m else 2 * x := by
  unfold dbl; simp only [ge_bit h]
theorem dbl_xor (m : Nat) {x y : Nat} (hx : x < 256) (hy : y < 256) : dbl m (x ^^^ y) = dbl m x ^^^ dbl m y := by
  rw [dbl_bit m hx, dbl_bit m hy, dbl_bit m (xor_lt (n := 8) hx hy), Nat.testBit_xor, two_xor]
  cases x.testBit 7 <;> cases y.testBit 7
  · rfl
  · simp only [Bool.false_xor, if_true, Bool.false_eq_true, if_false]; rw [Nat.xor_assoc]
  · simp only [Bool.xor_false, if_true, Bool.false_eq_true, if_false]; rw [Nat.xor_assoc, Nat.xor_assoc, Nat.xor_comm (2 * y)]
  · simp only [Bool.xor_self, if_true, Bool.false_eq_true, if_false]
    rw [xor_swap, Nat.xor_self, Nat.xor_zero]
section
variable {m : Nat} (h0 : 256 ≤ m) (h1 : m < 512)
include h0 h1
omit h0 h1 in
theorem dblN_dbl (a : Nat) : ∀ k, dblN m (dbl m a) k = dbl m (dblN m a k)
  | 0 => rfl
  | k + 1 => by show dbl m _ = dbl m _; rw [dblN_dbl a k]; rfl
theorem dblN_xor {x y : Nat} (hx : x < 256) (hy : y < 256) : ∀ k, dblN m (x ^^^ y) k = dblN m x k ^^^ dblN m y k
  | 0 => rfl
  | k + 1 => by show dbl m _ = dbl m _ ^^^ dbl m _; rw [dblN_xor hx hy k, dbl_xor m (dblN_lt h0 h1 hx k) (dblN_lt h0 h1 hy k)]
theorem mulP_dbl {a : Nat} (ha : a < 256) (b : Nat) : ∀ k, mulP m (dbl m a) b k = dbl m (mulP m a b k)
  | 0 => by simp [mulP, dbl]
  | k + 1 => by
    simp only [mulP, mulP_dbl ha b k, dblN_dbl a k]
    split
    · rw [dbl_xor m (mulP_lt h0 h1 ha k) (dblN_lt h0 h1 ha k)]
    · rfl
theorem mulP_xorL {x y : Nat} (hx : x < 256) (hy : y < 256) (b : Nat) : ∀ k, mulP m (x ^^^ y) b k = mulP m x b k ^^^ mulP m y b k
  | 0 => by simp [mulP]
  | k + 1 => by
    simp only [mulP, mulP_xorL hx hy b k, dblN_xor h0 h1 hx hy k]
    split
    · rw [xor_swap]
    · rfl
theorem mulN_dblN {a : Nat} (ha : a < 256) (b : Nat) : ∀ k, mulN m (dblN m a k) b = dblN m (mulN m a b) k
  | 0 => rfl
  | k + 1 => by
    show mulP m (dbl m (dblN m a k)) b 8 = dbl m (dblN m (mulN m a b) k)
    rw [mulP_dbl h0 h1 (dblN_lt h0 h1 ha k)]; exact congrArg _ (mulN_dblN ha b k)
/-- Products one behind the other may change places. -/
theorem mulN_mulP {a : Nat} (ha : a < 256) (b c : Nat) : ∀ k, mulN m (mulP m a b k) c = mulP m (mulN m a c) b k
  | 0 => by
    show mulP m 0 c 8 = 0
    have := mulP_xorL h0 h1 (x := 0) (y := 0) (by omega) (by omega) c 8
    simpa using this
  | k + 1 => by
    simp only [mulP]
    split
    · rw [show mulN m (mulP m a b k ^^^ dblN m a k) c = mulN m (mulP m a b k) c ^^^ mulN m (dblN m a k) c from mulP_xorL h0 h1 (mulP_lt h0 h1 ha k) (dblN_lt h0 h1 ha k) c 8, mulN_mulP ha b c k, mulN_dblN h0 h1 ha c k]
    · exact mulN_mulP ha b c k
omit h0 h1 in
theorem dblN_one : ∀ k, k < 8 → dblN m 1 k = 2 ^ k
  | 0, _ => rfl
  | k + 1, h => by
    show dbl m (dblN m 1 k) = _
    have h2 : 2 ^ k < 128 := Nat.pow_lt_pow_right (n := 7) (by omega) (by omega)
    rw [dblN_one k (by omega)]; unfold dbl; rw [if_neg (by omega), Nat.pow_succ]; omega
omit h0 h1 in
theorem mulP_one (b : Nat) : ∀ k, k ≤ 8 → mulP m 1 b k = b % 2 ^ k
  | 0, _ => by simp [mulP, Nat.mod_one]
  | k + 1, h => by
    simp only [mulP, mulP_one b k (by omega), dblN_one k (by omega)]
    have hlt : b % 2 ^ k < 2 ^ k := Nat.mod_lt _ (Nat.two_pow_pos k)
    have e := Nat.mod_pow_succ (x := b) (b := 2) (k := k)
    have ht : b.testBit k = decide (b / 2 ^ k % 2 = 1) := Nat.testBit_eq_decide_div_mod_eq
    rw [e, ht]
    rcases Nat.mod_two_eq_zero_or_one (b / 2 ^ k) with h2 | h2 <;> rw [h2]
    · simp
    · rw [if_pos (by simp), Nat.xor_comm, pow_xor hlt]; omega
omit h0 h1 in
theorem mulN_one {b : Nat} (hb : b < 256) : mulN m 1 b = b := by
  unfold mulN; rw [mulP_one b 8 (by omega)]; exact Nat.mod_eq_of_lt hb
theorem mulN_comm {a b : Nat} (ha : a < 256) (hb : b < 256) : mulN m a b = mulN m b a := by
  have e := mulN_mulP h0 h1 (a := 1) (by omega) a b 8
  rw [show mulP m 1 a 8 = a from mulN_one ha, mulN_one hb] at e
  exact e
theorem mulN_assoc {a b : Nat} (ha : a < 256) (hb : b < 256) (c : Nat) : mulN m (mulN m a b) c = mulN m a (mulN m b c) := by
  have hbc : mulN m b c < 256 := mulP_lt h0 h1 hb 8
  -- (a b) c = (a c) b ; a (b c) = (b c) a = (b a) c = (a b) c
  rw [mulN_comm h0 h1 ha hbc, show mulN m (mulN m b c) a = mulN m (mulN m b a) c from mulN_mulP h0 h1 hb c a 8, mulN_comm h0 h1 hb ha]
end

section
variable {m : Nat} (h0 : 256 ≤ m) (h1 : m < 512)
include h0 h1
theorem tm_nat (a b : UInt8) : (tm m a b).toNat = mulN m a.toNat b.toNat := by
  unfold tm; exact u8_ofNat_toNat (mulN_lt h0 h1 (u8_lt a))
theorem tm_comm (a b : UInt8) : tm m a b = tm m b a := by
  unfold tm; rw [mulN_comm h0 h1 (u8_lt a) (u8_lt b)]
theorem tm_xorL (a b c : UInt8) : tm m (a ^^^ b) c = tm m a c ^^^ tm m b c := by
  rw [tm_comm h0 h1, tm_xor, tm_comm h0 h1 c, tm_comm h0 h1 c]
theorem tm_assoc (a b c : UInt8) : tm m (tm m a b) c = tm m a (tm m b c) := by
  rw [← UInt8.toNat_inj, tm_nat h0 h1, tm_nat h0 h1, tm_nat h0 h1, tm_nat h0 h1]
  exact mulN_assoc h0 h1 (u8_lt a) (u8_lt b) c.toNat
theorem tm_one (a : UInt8) : tm m 1 a = a := by
  rw [← UInt8.toNat_inj, tm_nat h0 h1]; exact mulN_one (u8_lt a)
theorem tm_oneR (a : UInt8) : tm m a 1 = a := by rw [tm_comm h0 h1, tm_one h0 h1]
end
end Go.Proofs.Ytcfpninklbnifaa
/- Powers and orders in a field. Plain. -/
namespace Go.Proofs.Ytcfpninklbnifaa
set_option linter.unusedSimpArgs false
set_option linter.unusedVariables false
set_option maxRecDepth 20000
set_option maxHeartbeats 1000000
open Go.Abs

def powN (m : Nat) (a : UInt8) : Nat → UInt8
  | 0 => 1
  | n + 1 => tm m (powN m a n) a
section
variable {m : Nat} (h0 : 256 ≤ m) (h1 : m < 512)
include h0 h1
theorem powN_add (a : UInt8) (i : Nat) : ∀ j, powN m a (i + j) = tm m (powN m a i) (powN m a j)
  | 0 => (tm_oneR h0 h1 _).symm
  | j + 1 => by
    show tm m (powN m a (i + j)) a = tm m (powN m a i) (tm m (powN m a j) a)
    rw [powN_add a i j, tm_assoc h0 h1]
theorem powN_mul (a : UInt8) (i : Nat) : ∀ j, powN m a (i * j) = powN m (powN m a i) j
  | 0 => rfl
  | j + 1 => by
    rw [Nat.mul_succ, powN_add h0 h1, powN_mul a i j]; rfl
theorem powN_one : ∀ n, powN m 1 n = 1
  | 0 => rfl
  | n + 1 => by show tm m (powN m 1 n) 1 = 1; rw [powN_one n, tm_one h0 h1]
theorem sqP_pow (a : UInt8) : ∀ i, sqP m a i = powN m a (2 ^ i)
  | 0 => by show a = tm m 1 a; rw [tm_one h0 h1]
  | i + 1 => by
    show tm m (sqP m a i) (sqP m a i) = _
    rw [sqP_pow a i, ← powN_add h0 h1, ← Nat.two_mul, Nat.pow_succ, Nat.mul_comm]
theorem poP_pow (a : UInt8) (e : Nat) : ∀ i, poP m a e i = powN m a (e % 2 ^ i)
  | 0 => by rw [Nat.pow_zero, Nat.mod_one]; rfl
  | i + 1 => by
    have hm : e % 2 ^ (i + 1) = e % 2 ^ i + 2 ^ i * (e / 2 ^ i % 2) := Nat.mod_pow_succ
    cases hb : e.testBit i
    · rw [poP_f hb, poP_pow a e i, hm]
      have : e / 2 ^ i % 2 = 0 := by
        rw [Nat.testBit_eq_decide_div_mod_eq] at hb
        have := of_decide_eq_false hb
        omega
      rw [this, Nat.mul_zero, Nat.add_zero]
    · rw [poP_t hb, poP_pow a e i, sqP_pow h0 h1, hm]
      have : e / 2 ^ i % 2 = 1 := by
        rw [Nat.testBit_eq_decide_div_mod_eq] at hb
        exact of_decide_eq_true hb
      rw [this, Nat.mul_one, powN_add h0 h1]
theorem po_pow (a : UInt8) (e : Nat) : po m a e = powN m a e := by
  unfold po
  rw [poP_pow h0 h1, Nat.mod_eq_of_lt (lt_blen e)]
end

/-- The order of an element, at most 256. -/
def ordN (m : Nat) (a : UInt8) : Nat := 1 + skip (fun k => powN m a k != 1) 255 1
theorem ordN_lt {m : Nat} {a : UInt8} {k : Nat} (hk : 0 < k) (h : k < ordN m a) : powN m a k ≠ 1 := by
  unfold ordN at h
  have := skip_go _ _ (k - 1) (show k - 1 < skip (fun k => powN m a k != 1) 255 1 by omega)
  rw [show 1 + (k - 1) = k by omega] at this
  simpa using this
theorem ordN_pos (m : Nat) (a : UInt8) : 1 ≤ ordN m a := Nat.le_add_right _ _
theorem ordN_le {m : Nat} {a : UInt8} {k : Nat} (hk : 0 < k) (h : powN m a k = 1) : ordN m a ≤ k := by
  rcases Nat.lt_or_ge k (ordN m a) with h2 | h2
  · exact absurd h (ordN_lt hk h2)
  · exact h2
theorem ordN_is {m : Nat} {a : UInt8} (h : powN m a 255 = 1) : powN m a (ordN m a) = 1 := by
  have hl := ordN_le (by omega) h
  unfold ordN at *
  have := skip_end (p := fun k => powN m a k != 1) 255 1 (by omega)
  simpa using this
theorem ordN_dvd {m : Nat} (h0 : 256 ≤ m) (h1 : m < 512) {a : UInt8} {k : Nat} (h : powN m a 255 = 1) (hk : powN m a k = 1) : k % ordN m a = 0 := by
  have hp := ordN_pos m a
  have ho := ordN_is h
  rcases Nat.eq_zero_or_pos (k % ordN m a) with h2 | h2
  · exact h2
  · refine absurd ?_ (ordN_lt h2 (Nat.mod_lt k hp))
    have e := Nat.div_add_mod k (ordN m a)
    rw [← e, powN_add h0 h1, powN_mul h0 h1, ho, powN_one h0 h1, tm_one h0 h1] at hk
    exact hk

def chkG (m g : Nat) : Bool := po m (UInt8.ofNat g) 255 == 1 && (po m (UInt8.ofNat g) 85 != 1 && (po m (UInt8.ofNat g) 51 != 1 && po m (UInt8.ofNat g) 15 != 1))
def findG (m : Nat) : Nat → Nat → Nat
  | 0, g => g
  | f + 1, g => if chkG m g then g else findG m f (g + 1)
theorem gen_all : ∀ i, i < 256 → fieldB (i + 256) = true → 2 ≤ findG (i + 256) 100 2 ∧ findG (i + 256) 100 2 < 256 ∧ chkG (i + 256) (findG (i + 256) 100 2) = true := by decide +kernel
theorem dvd255 : ∀ d, d < 255 → 0 < d → 255 % d = 0 → 85 % d = 0 ∨ 51 % d = 0 ∨ 15 % d = 0 := by decide +kernel
theorem gen_ex {m : Nat} (h0 : 256 ≤ m) (h1 : m < 512) (hf : fieldB m = true) : ∃ g, 2 ≤ g ∧ g < 256 ∧ powN m (UInt8.ofNat g) 255 = 1 ∧ ordN m (UInt8.ofNat g) = 255 := by
  have := gen_all (m - 256) (by omega) (by rw [show m - 256 + 256 = m by omega]; exact hf)
  rw [show m - 256 + 256 = m by omega] at this
  obtain ⟨a1, a2, a3⟩ := this
  generalize findG m 100 2 = g at *
  unfold chkG at a3
  simp only [Bool.and_eq_true, beq_iff_eq, bne_iff_ne, po_pow h0 h1] at a3
  obtain ⟨b1, b2, b3, b4⟩ := a3
  refine ⟨g, a1, a2, b1, ?_⟩
  have hl := ordN_le (by omega) b1
  have hp := ordN_pos m (UInt8.ofNat g)
  have hd := ordN_dvd h0 h1 b1 b1
  have ho := ordN_is b1
  rcases Nat.lt_or_ge (ordN m (UInt8.ofNat g)) 255 with h | h
  · have key : ∀ k, k % ordN m (UInt8.ofNat g) = 0 → powN m (UInt8.ofNat g) k = 1 := fun k hk => by
      have e := Nat.div_add_mod k (ordN m (UInt8.ofNat g))
      rw [hk, Nat.add_zero] at e
      rw [← e, powN_mul h0 h1, ho, powN_one h0 h1]
    rcases dvd255 _ h hp hd with h2 | h2 | h2
    · exact absurd (key _ h2) b2
    · exact absurd (key _ h2) b3
    · exact absurd (key _ h2) b4
  · omega
theorem tm_zeroL (m : Nat) {a : UInt8} (h0 : 256 ≤ m) (h1 : m < 512) : tm m 0 a = 0 := by rw [tm_comm h0 h1]; exact tm_zeroR m a
/-- Fermat's law. -/
theorem pow255 {m : Nat} (h0 : 256 ≤ m) (h1 : m < 512) (hf : fieldB m = true) {a : UInt8} (ha : a ≠ 0) : powN m a 255 = 1 := by
  obtain ⟨g, _, _, hg, ho⟩ := gen_ex h0 h1 hf
  generalize UInt8.ofNat g = w at *
  have nz : ∀ i, i ≤ 255 → powN m w i ≠ 0 := fun i hi e => by
    have : powN m w (i + (255 - i)) = 0 := by rw [powN_add h0 h1, e, tm_zeroL m h0 h1]
    rw [show i + (255 - i) = 255 by omega, hg] at this
    exact absurd this (by decide)
  have inj : ∀ i j, i < 255 → j < 255 → i < j → powN m w i ≠ powN m w j := fun i j hi hj hij e => by
    have h2 : powN m w (i + (255 - i)) = powN m w (j + (255 - i)) := by rw [powN_add h0 h1, e, ← powN_add h0 h1]
    rw [show i + (255 - i) = 255 by omega, show j + (255 - i) = (j - i) + 255 by omega, powN_add h0 h1 w (j - i) 255, hg, tm_oneR h0 h1] at h2
    exact ordN_lt (show 0 < j - i by omega) (by rw [ho]; omega) h2.symm
  have hpos : ∀ x : UInt8, x ≠ 0 → 0 < x.toNat := fun x hx => Nat.pos_of_ne_zero fun e => hx (UInt8.toNat.inj e)
  obtain ⟨i, hi, e⟩ := inj_surj 255 (fun i => (powN m w i).toNat - 1)
    (fun i hi => by have h2 := u8_lt (powN m w i); have h3 := hpos _ (nz i (by omega)); show (powN m w i).toNat - 1 < 255; omega)
    (fun i j hi hj e => by
      have e' : (powN m w i).toNat - 1 = (powN m w j).toNat - 1 := e
      have h3 := hpos _ (nz i (by omega))
      have h4 := hpos _ (nz j (by omega))
      have h5 : powN m w i = powN m w j := UInt8.toNat.inj (by omega)
      rcases Nat.lt_trichotomy i j with h | h | h
      · exact absurd h5 (inj i j hi hj h)
      · exact h
      · exact absurd h5.symm (inj j i hj hi h))
    (a.toNat - 1) (by have := u8_lt a; have := hpos a ha; omega)
  have e' : (powN m w i).toNat - 1 = a.toNat - 1 := e
  have h3 := hpos _ (nz i (by omega))
  have h4 := hpos a ha
  have h5 : powN m w i = a := UInt8.toNat.inj (by omega)
  rw [← h5, ← powN_mul h0 h1, Nat.mul_comm, powN_mul h0 h1, hg, powN_one h0 h1]
theorem tm_inv {m : Nat} (h0 : 256 ≤ m) (h1 : m < 512) (hf : fieldB m = true) {a : UInt8} (ha : a ≠ 0) : tm m a (inv m a) = 1 := by
  unfold inv
  rw [po_pow h0 h1, tm_comm h0 h1]
  exact pow255 h0 h1 hf ha
end Go.Proofs.Ytcfpninklbnifaa
/- What the laws of functions share: draws told with memory opaque. -/
namespace Go.Proofs.Ytcfpninklbnifaa
set_option linter.unusedSimpArgs false
set_option linter.unusedVariables false
set_option maxRecDepth 20000
set_option maxHeartbeats 1000000
open Go.Abs

theorem WA_midH {P : Program} {n0 : Nat} {x y : Code} {Q Q' : Exit → AS → Prop} {t : List Value} {H : List Blk} (ps : List (Nat × Value))
    (h : WA P n0 x (Then (fun s' => Drop n0 s' ⟨patT t ps, H⟩) Q') ⟨t, H⟩) (h2 : WA P n0 y Q ⟨patT t ps, H⟩) : WA P n0 x (Then (WA P n0 y Q) Q') ⟨t, H⟩ := WA_mid _ h h2
theorem app_app {h H L : List Blk} (e : ∃ A, H = h ++ A) : ∃ A, H ++ L = h ++ A := by
  obtain ⟨A, rfl⟩ := e
  exact ⟨A ++ L, List.append_assoc ..⟩
theorem app_len {h H : List Blk} (e : ∃ A, H = h ++ A) : h.length ≤ H.length := by
  obtain ⟨A, rfl⟩ := e
  simp
theorem big_ac {h : List Blk} {cv : Value} (c : Cv h cv) : AC Try.prog 5 [cv] h (.bool false) h := by
  cases c with
  | nil =>
    (refine AC_begin (fun _ _ => Try.call5 _ _) Try.func5 rfl Try.ntmps5 Try.results5 (fun hwf => ?_); simp only [List.length_cons, List.length_nil, Nat.reduceAdd, Nat.reduceSub, List.replicate, List.cons_append, List.nil_append])
    (repeat (first | ((first | (refine And.intro ?_ ?_; focus exact PLA) | refine WA_seq (WA_region ?_) | refine WA_region ?_ | refine WA_exit ?_); try simp (maxSteps := 1000000) (disch := first | omega | rfl | decide | (simp only [List.length_cons, List.length_nil, List.length_append, LV] <;> omega)) only [go_sem, Nat.reduceAdd, Int.reduceAdd, Int.reduceSub, Int.reduceMul, Bool.not_true, Bool.not_false]) | refine WA_seq ?_ | refine WA_block ?_ | (refine WA_skip ?_; try simp only [go_sem]) | (refine WA_ret ?_; try simp only [go_sem]) | refine WA_ct rfl ?_ | refine WA_cf rfl ?_))
    ((first | refine ret_nA ?_ | refine ret_sA ?_ | refine ret_fA ?_); simp (maxSteps := 1000000) (disch := first | omega | rfl | decide | (simp only [List.length_cons, List.length_nil, List.length_append, LV] <;> omega)) only [go_sem, Nat.reduceAdd, Int.reduceAdd, Int.reduceSub, Int.reduceMul, Bool.not_true, Bool.not_false]; try rfl)
  | @sl bc n f rc hb hn =>
    (refine AC_begin (fun _ _ => Try.call5 _ _) Try.func5 rfl Try.ntmps5 Try.results5 (fun hwf => ?_); simp only [List.length_cons, List.length_nil, Nat.reduceAdd, Nat.reduceSub, List.replicate, List.cons_append, List.nil_append])
    (repeat (first | ((first | (refine And.intro ?_ ?_; focus exact PLA) | refine WA_seq (WA_region ?_) | refine WA_region ?_ | refine WA_exit ?_); try simp (maxSteps := 1000000) (disch := first | omega | rfl | decide | (simp only [List.length_cons, List.length_nil, List.length_append, LV] <;> omega)) only [go_sem, Nat.reduceAdd, Int.reduceAdd, Int.reduceSub, Int.reduceMul, Bool.not_true, Bool.not_false, show decide (4096 < n) = false from decide_eq_false (by omega)]) | refine WA_seq ?_ | refine WA_block ?_ | (refine WA_skip ?_; try simp only [go_sem]) | (refine WA_ret ?_; try simp only [go_sem]) | refine WA_ct rfl ?_ | refine WA_cf rfl ?_))
    ((first | refine ret_nA ?_ | refine ret_sA ?_ | refine ret_fA ?_); simp (maxSteps := 1000000) (disch := first | omega | rfl | decide | (simp only [List.length_cons, List.length_nil, List.length_append, LV] <;> omega)) only [go_sem, Nat.reduceAdd, Int.reduceAdd, Int.reduceSub, Int.reduceMul, Bool.not_true, Bool.not_false]; try rfl)
theorem big_long {b n : Nat} (hn : 4096 < n) (hn2 : n ≤ 9223372036854775807) (h : List Blk) : AC Try.prog 5 [sl b 0 n 1] h (.bool true) h := by
  (refine AC_begin (fun _ _ => Try.call5 _ _) Try.func5 rfl Try.ntmps5 Try.results5 (fun hwf => ?_); simp only [List.length_cons, List.length_nil, Nat.reduceAdd, Nat.reduceSub, List.replicate, List.cons_append, List.nil_append])
  (repeat (first | ((first | (refine And.intro ?_ ?_; focus exact PLA) | refine WA_seq (WA_region ?_) | refine WA_region ?_ | refine WA_exit ?_); try simp (maxSteps := 1000000) (disch := first | omega | rfl | decide | (simp only [List.length_cons, List.length_nil, List.length_append, LV] <;> omega)) only [go_sem, Nat.reduceAdd, Int.reduceAdd, Int.reduceSub, Int.reduceMul, Bool.not_true, Bool.not_false, show decide (4096 < n) = true from decide_eq_true hn]) | refine WA_seq ?_ | refine WA_block ?_ | (refine WA_skip ?_; try simp only [go_sem]) | (refine WA_ret ?_; try simp only [go_sem]) | refine WA_ct rfl ?_ | refine WA_cf rfl ?_))
  ((first | refine ret_nA ?_ | refine ret_sA ?_ | refine ret_fA ?_); simp (maxSteps := 1000000) (disch := first | omega | rfl | decide | (simp only [List.length_cons, List.length_nil, List.length_append, LV] <;> omega)) only [go_sem, Nat.reduceAdd, Int.reduceAdd, Int.reduceSub, Int.reduceMul, Bool.not_true, Bool.not_false]; try rfl)

end Go.Proofs.Ytcfpninklbnifaa
/- Opaque memory that is longer. -/
namespace Go.Proofs.Ytcfpninklbnifaa
set_option linter.unusedSimpArgs false
set_option linter.unusedVariables false
set_option maxRecDepth 20000
set_option maxHeartbeats 1000000
open Go.Abs

theorem setX {h h3 : List Blk} (e : ∃ L, h3 = h ++ L) {i : Nat} (hi : h.length ≤ i) (x : Blk) : ∃ L, h3.set i x = h ++ L := by
  obtain ⟨L, rfl⟩ := e
  exact app_set' hi x
theorem app_more {h h1 : List Blk} {x : List Blk} (e : ∃ L, h1 = h ++ x ++ L) : ∃ L, h1 = h ++ L := by
  obtain ⟨L, rfl⟩ := e
  exact ⟨_, List.append_assoc ..⟩
theorem cv_app {h H : List Blk} {cv : Value} (c : Cv h cv) (e : ∃ L, H = h ++ L) : Cv H cv := by
  obtain ⟨L, rfl⟩ := e
  exact c.app L
end Go.Proofs.Ytcfpninklbnifaa
/- Draws of ciphers that may be spoiled, draws for the law on ciphers. -/
namespace Go.Proofs.Ytcfpninklbnifaa
set_option linter.unusedSimpArgs false
set_option linter.unusedVariables false
set_option maxRecDepth 20000
set_option maxHeartbeats 1000000
open Go.Abs

theorem pick8_aft {h : List Blk} {b : Nat} {cv : Value} (s : SrcAt h b cv) :
    ∃ (v : UInt8) (h' : List Blk), Aft h h' b cv ∧ AC Try.prog 108 [pt b 0, sl h.length 0 3 1] (h ++ [⟨[B 16, B 1, B 255], true⟩]) (B v) h' := by
  have hbl := s.lt
  have a0 := s.more [⟨[B 16, B 1, B 255], true⟩]
  obtain ⟨x, h1, hx, a1, c1⟩ := next_aft a0.src (N := 3) (by omega) (by omega)
  have hL := a1.keep h.length ⟨[B 16, B 1, B 255], true⟩ (by omega) (by simp)
  obtain ⟨v, hv⟩ : ∃ v, ([B 16, B 1, B 255] : List Value)[x]? = some (B v) := by
    match x, hx with
    | 0, _ => exact ⟨16, rfl⟩
    | 1, _ => exact ⟨1, rfl⟩
    | 2, _ => exact ⟨255, rfl⟩
    | n + 3, h => exact absurd h (by omega)
  have hlen := (a0.trans a1).len
  refine ⟨v, h1, a0.trans a1, ?_⟩
  (refine AC_begin (fun _ _ => Try.call108 _ _) Try.func108 rfl Try.ntmps108 Try.results108 (fun hwf => ?_); simp only [List.length_cons, List.length_nil, Nat.reduceAdd, Nat.reduceSub, List.replicate, List.cons_append, List.nil_append])
  (repeat (first | ((first | (refine And.intro ?_ ?_; focus exact PLA) | ((first | with_reducible apply callB_i | with_reducible apply callK_intro | with_reducible apply callQ_i); (focus (first | assumption | (with_reducible apply c1 <;> (first | assumption | rfl | (simp (disch := omega) only [go_sem]; first | done | rfl) | omega | decide | (simp; done))))); (try exact WP_au)) | refine WA_seq (WA_region ?_) | refine WA_region ?_ | refine WA_exit ?_); try simp (maxSteps := 1000000) (disch := first | omega | rfl | decide | (simp only [List.length_cons, List.length_nil, List.length_append, LV] <;> omega)) only [go_sem, Nat.reduceAdd, Int.reduceAdd, Int.reduceSub, Int.reduceMul, Bool.not_true, Bool.not_false, hL, hv]) | refine WA_seq ?_ | refine WA_block ?_ | (refine WA_skip ?_; try simp only [go_sem]) | (refine WA_ret ?_; try simp only [go_sem]) | refine WA_ct rfl ?_ | refine WA_cf rfl ?_))
  refine ret_full (by first | exact .inr rfl | exact .inl rfl) (by first | simpa using a1.len | (have := a1.len; simp at this ⊢; omega)) ?_
  simp (maxSteps := 1000000) (disch := first | omega | rfl | decide | (simp only [List.length_cons, List.length_nil, List.length_append, LV] <;> omega)) only [go_sem, Nat.reduceAdd, Int.reduceAdd, Int.reduceSub, Int.reduceMul, Bool.not_true, Bool.not_false]
  try rfl

/-- The first row is the second. -/
def rowM (f : Nat → UInt8) : Nat → UInt8 := fun i => if i < 4 then f (4 + i) else f i
theorem Ci_row01 (m : Int) (bx mx pl : Nat → UInt8) (r : Int) : splice (Ci m bx mx pl r) 257 (Bs 4 fun i => mx (4 + i)) = Ci m bx (rowM mx) pl r := by
  apply List.ext_getElem?
  intro i
  rw [splice_get (by rw [Ci_length, Bs_length]; omega), Bs_length]
  by_cases h : 257 ≤ i ∧ i < 257 + 4
  · rw [if_pos h, Bs_get (by omega)]
    obtain ⟨j, rfl⟩ : ∃ j, i = 257 + j := ⟨i - 257, by omega⟩
    rw [Ci_get2 _ _ _ _ _ (by omega), Nat.add_sub_cancel_left]
    unfold rowM
    rw [if_pos (by omega)]
  · rw [if_neg h]
    by_cases h2 : 257 ≤ i ∧ i < 273
    · obtain ⟨j, rfl⟩ : ∃ j, i = 257 + j := ⟨i - 257, by omega⟩
      rw [Ci_get2 _ _ _ _ _ (by omega), Ci_get2 _ _ _ _ _ (by omega)]
      unfold rowM
      rw [if_neg (by omega)]
    · by_cases h3 : i < 257
      · by_cases h4 : i = 0
        · subst h4; rw [Ci_get0, Ci_get0]
        · obtain ⟨j, rfl⟩ : ∃ j, i = 1 + j := ⟨i - 1, by omega⟩
          rw [Ci_get1 _ _ _ _ _ (by omega), Ci_get1 _ _ _ _ _ (by omega)]
      · by_cases h5 : i < 289
        · obtain ⟨j, rfl⟩ : ∃ j, i = 273 + j := ⟨i - 273, by omega⟩
          rw [Ci_get3 _ _ _ _ _ (by omega), Ci_get3 _ _ _ _ _ (by omega)]
        · by_cases h6 : i = 289
          · subst h6; rw [Ci_get4, Ci_get4]
          · rw [List.getElem?_eq_none (by rw [Ci_length]; omega), List.getElem?_eq_none (by rw [Ci_length]; omega)]
theorem Ci_row01' (m : Int) (bx mx pl : Nat → UInt8) (r : Int) : splice (Ci m bx mx pl r) (257 + 0 * 4) (Bs 4 fun i => mx (4 + i)) = Ci m bx (rowM mx) pl r := Ci_row01 m bx mx pl r
theorem Ci_l261 (m : Int) (bx mx pl : Nat → UInt8) (r : Int) (q : Bool) : loadRow (some ⟨Ci m bx mx pl r, q⟩) 261 4 = some (.agg (Bs 4 fun i => mx (4 + i)).toArray) := Ci_rowin2 m bx mx pl r (j := 4) (m := 4) (by omega) q
theorem Ci_g2 (m : Int) (bx mx pl : Nat → UInt8) (r : Int) : (Ci m bx mx pl r)[2]? = some (B (bx 1)) := Ci_get1 m bx mx pl r (j := 1) (by omega)
theorem Ci_g273 (m : Int) (bx mx pl : Nat → UInt8) (r : Int) : (Ci m bx mx pl r)[273]? = some (B (pl 0)) := Ci_get3 m bx mx pl r (j := 0) (by omega)
theorem Ci_s1 (m : Int) (bx mx pl : Nat → UInt8) (r : Int) (x : UInt8) : (Ci m bx mx pl r).set 1 (B x) = Ci m (upd bx 0 x) mx pl r  := by
  rw [show (1 : Nat) = 1 + 0 from rfl, Ci_cut1, mid_set (n := 256) (by simp [Bs_length]) (Bs_length ..) (by omega), Bs_set, ← Ci_cut1]
theorem Ci_s273 (m : Int) (bx mx pl : Nat → UInt8) (r : Int) (x : UInt8) : (Ci m bx mx pl r).set 273 (B x) = Ci m bx mx (upd pl 0 x) r  := by
  rw [show (273 : Nat) = 273 + 0 from rfl, Ci_cut3, mid_set (n := 16) (by simp [Bs_length]) (Bs_length ..) (by omega), Bs_set, ← Ci_cut3]
theorem Ci_s274 (m : Int) (bx mx pl : Nat → UInt8) (r : Int) (x : UInt8) : (Ci m bx mx pl r).set 274 (B x) = Ci m bx mx (upd pl 1 x) r  := by
  rw [show (274 : Nat) = 273 + 1 from rfl, Ci_cut3, mid_set (n := 16) (by simp [Bs_length]) (Bs_length ..) (by omega), Bs_set, ← Ci_cut3]
set_option maxHeartbeats 8000000 in
theorem l04Spoil_aft {h : List Blk} {b : Nat} {cv : Value} (s : SrcAt h b cv) :
    ∃ (m : Int) (bx mx pl : Nat → UInt8) (r : Int) (h' : List Blk), (-1 ≤ r ∧ r ≤ 1000) ∧ Aft h h' b cv ∧ AC Try.prog 73 [pt b 0] h (.agg (Ci m bx mx pl r).toArray) h' := by
  have hbl := s.lt
  have a0 := s.more [⟨Ci 0 zeroF zeroF zeroF 0, true⟩]
  obtain ⟨m, bx, mx, pl, r, h1, hr, a1, c1⟩ := l04Draw_aft a0.src
  have hR1 := a1.keep h.length ⟨Ci 0 zeroF zeroF zeroF 0, true⟩ (by omega) (by simp)
  have a2 := a1.src.more [⟨Ci m bx mx pl r, true⟩]
  obtain ⟨x, h2, hx, a3, c2⟩ := next_aft a2.src (N := 24) (by omega) (by omega)
  have hbc : h1.length ≠ b := by have := a1.src.lt; omega
  have hC := a3.keep h1.length ⟨Ci m bx mx pl r, true⟩ hbc (by simp)
  have hR2 := (a2.trans a3).keep _ _ (by omega) hR1
  have A3 := ((a0.trans a1).trans a2).trans a3
  have l1 := blt hR1
  have hrr : -1 ≤ r ∧ r ≤ 1000 := by omega
  by_cases x0 : x = 0
  · subst x0
    obtain ⟨v, h3, hv, a4, c3⟩ := pickL_aft a3.src [.int .i64 256, .int .i64 511, .int .i64 0, .int .i64 512] (n := 4) rfl rfl (by omega) (by omega)
    have A4 := A3.trans a4
    have hC4 := a4.keep _ _ hbc hC
    have hR4 := a4.keep _ _ (by omega) hR2
    have hR5 := set_at (x := ⟨Ci v bx mx pl r, true⟩) hR4 (show h1.length ≠ h.length by omega)
    have hlen := A4.len
    refine ⟨v, bx, mx, pl, r, (h3.set h1.length ⟨Ci v bx mx pl r, true⟩).set h.length ⟨Ci v bx mx pl r, true⟩, hrr, (A4.set s (by omega) _).set s (Nat.le_refl _) _, ?_⟩
    (refine AC_begin (fun _ _ => Try.call73 _ _) Try.func73 rfl Try.ntmps73 Try.results73 (fun hwf => ?_); simp only [List.length_cons, List.length_nil, Nat.reduceAdd, Nat.reduceSub, List.replicate, List.cons_append, List.nil_append])
    (repeat (first | ((first | (refine And.intro ?_ ?_; focus exact PLA) | ((first | with_reducible apply callB_i | with_reducible apply callK_intro | with_reducible apply callQ_i); (focus (first | assumption | ((first | with_reducible apply c1 | with_reducible apply c2 | with_reducible apply c3) <;> (first | assumption | rfl | (simp (disch := omega) only [go_sem]; first | done | rfl) | omega | decide | (simp; done))))); (try exact WP_au)) | refine WA_seq (WA_region ?_) | refine WA_region ?_ | refine WA_exit ?_); try simp (maxSteps := 1000000) (disch := first | omega | rfl | decide | (simp only [List.length_cons, List.length_nil, List.length_append, LV] <;> omega)) only [go_sem, Nat.reduceAdd, Int.reduceAdd, Int.reduceSub, Int.reduceMul, Bool.not_true, Bool.not_false, Ci_splice_all, Ci_row01', Ci_l261, Ci_g2, Ci_g273, Ci_s1, Ci_s273, Ci_s274, beq_self_eq_true, hC4, look_set (blt hC4), List.set_set, hR5]) | refine WA_seq ?_ | refine WA_block ?_ | (refine WA_skip ?_; try simp only [go_sem]) | (refine WA_ret ?_; try simp only [go_sem]) | refine WA_ct rfl ?_ | refine WA_cf rfl ?_))
    refine ret_full (by first | exact .inr rfl | exact .inl rfl) (by simpa using hlen) ?_
    simp (maxSteps := 1000000) (disch := first | omega | rfl | decide | (simp only [List.length_cons, List.length_nil, List.length_append, LV] <;> omega)) only [go_sem, Nat.reduceAdd, Int.reduceAdd, Int.reduceSub, Int.reduceMul, Bool.not_true, Bool.not_false, look_set (blt hR5)]
    try rfl
  have hx0 : (x == 0) = false := by simpa using x0
  by_cases x1 : x = 1
  · subst x1
    have A4 := A3
    have hC4 := hC
    have hR4 := hR2
    have hR5 := set_at (x := ⟨Ci m (upd bx 0 (bx 1)) mx pl r, true⟩) hR4 (show h1.length ≠ h.length by omega)
    have hlen := A4.len
    refine ⟨m, (upd bx 0 (bx 1)), mx, pl, r, (h2.set h1.length ⟨Ci m (upd bx 0 (bx 1)) mx pl r, true⟩).set h.length ⟨Ci m (upd bx 0 (bx 1)) mx pl r, true⟩, hrr, (A4.set s (by omega) _).set s (Nat.le_refl _) _, ?_⟩
    (refine AC_begin (fun _ _ => Try.call73 _ _) Try.func73 rfl Try.ntmps73 Try.results73 (fun hwf => ?_); simp only [List.length_cons, List.length_nil, Nat.reduceAdd, Nat.reduceSub, List.replicate, List.cons_append, List.nil_append])
    (repeat (first | ((first | (refine And.intro ?_ ?_; focus exact PLA) | ((first | with_reducible apply callB_i | with_reducible apply callK_intro | with_reducible apply callQ_i); (focus (first | assumption | ((first | with_reducible apply c1 | with_reducible apply c2) <;> (first | assumption | rfl | (simp (disch := omega) only [go_sem]; first | done | rfl) | omega | decide | (simp; done))))); (try exact WP_au)) | refine WA_seq (WA_region ?_) | refine WA_region ?_ | refine WA_exit ?_); try simp (maxSteps := 1000000) (disch := first | omega | rfl | decide | (simp only [List.length_cons, List.length_nil, List.length_append, LV] <;> omega)) only [go_sem, Nat.reduceAdd, Int.reduceAdd, Int.reduceSub, Int.reduceMul, Bool.not_true, Bool.not_false, Ci_splice_all, Ci_row01', Ci_l261, Ci_g2, Ci_g273, Ci_s1, Ci_s273, Ci_s274, beq_self_eq_true, show ((1 : Nat) == 0) = false from rfl, hC4, look_set (blt hC4), List.set_set, hR5]) | refine WA_seq ?_ | refine WA_block ?_ | (refine WA_skip ?_; try simp only [go_sem]) | (refine WA_ret ?_; try simp only [go_sem]) | refine WA_ct rfl ?_ | refine WA_cf rfl ?_))
    refine ret_full (by first | exact .inr rfl | exact .inl rfl) (by simpa using hlen) ?_
    simp (maxSteps := 1000000) (disch := first | omega | rfl | decide | (simp only [List.length_cons, List.length_nil, List.length_append, LV] <;> omega)) only [go_sem, Nat.reduceAdd, Int.reduceAdd, Int.reduceSub, Int.reduceMul, Bool.not_true, Bool.not_false, look_set (blt hR5)]
    try rfl
  have hx1 : (x == 1) = false := by simpa using x1
  by_cases x2 : x = 2
  · subst x2
    have A4 := A3
    have hC4 := hC
    have hR4 := hR2
    have hR5 := set_at (x := ⟨Ci m bx (rowM mx) pl r, true⟩) hR4 (show h1.length ≠ h.length by omega)
    have hlen := A4.len
    refine ⟨m, bx, (rowM mx), pl, r, (h2.set h1.length ⟨Ci m bx (rowM mx) pl r, true⟩).set h.length ⟨Ci m bx (rowM mx) pl r, true⟩, hrr, (A4.set s (by omega) _).set s (Nat.le_refl _) _, ?_⟩
    (refine AC_begin (fun _ _ => Try.call73 _ _) Try.func73 rfl Try.ntmps73 Try.results73 (fun hwf => ?_); simp only [List.length_cons, List.length_nil, Nat.reduceAdd, Nat.reduceSub, List.replicate, List.cons_append, List.nil_append])
    (repeat (first | ((first | (refine And.intro ?_ ?_; focus exact PLA) | ((first | with_reducible apply callB_i | with_reducible apply callK_intro | with_reducible apply callQ_i); (focus (first | assumption | ((first | with_reducible apply c1 | with_reducible apply c2) <;> (first | assumption | rfl | (simp (disch := omega) only [go_sem]; first | done | rfl) | omega | decide | (simp; done))))); (try exact WP_au)) | refine WA_seq (WA_region ?_) | refine WA_region ?_ | refine WA_exit ?_); try simp (maxSteps := 1000000) (disch := first | omega | rfl | decide | (simp only [List.length_cons, List.length_nil, List.length_append, LV] <;> omega)) only [go_sem, Nat.reduceAdd, Int.reduceAdd, Int.reduceSub, Int.reduceMul, Bool.not_true, Bool.not_false, Ci_splice_all, Ci_row01', Ci_l261, Ci_g2, Ci_g273, Ci_s1, Ci_s273, Ci_s274, beq_self_eq_true, show ((2 : Nat) == 0) = false from rfl, show ((2 : Nat) == 1) = false from rfl, hC4, look_set (blt hC4), List.set_set, hR5, Ci_row01]) | refine WA_seq ?_ | refine WA_block ?_ | (refine WA_skip ?_; try simp only [go_sem]) | (refine WA_ret ?_; try simp only [go_sem]) | refine WA_ct rfl ?_ | refine WA_cf rfl ?_))
    refine ret_full (by first | exact .inr rfl | exact .inl rfl) (by simpa using hlen) ?_
    simp (maxSteps := 1000000) (disch := first | omega | rfl | decide | (simp only [List.length_cons, List.length_nil, List.length_append, LV] <;> omega)) only [go_sem, Nat.reduceAdd, Int.reduceAdd, Int.reduceSub, Int.reduceMul, Bool.not_true, Bool.not_false, look_set (blt hR5)]
    try rfl
  have hx2 : (x == 2) = false := by simpa using x2
  by_cases x3 : x = 3
  · subst x3
    obtain ⟨v, h3, a4, c3⟩ := pick8_aft a3.src
    have A4 := A3.trans a4
    have hC4 := a4.keep _ _ hbc hC
    have hR4 := a4.keep _ _ (by omega) hR2
    have hR5 := set_at (x := ⟨Ci m bx mx (upd (upd pl 0 v) 1 (upd pl 0 v 0)) r, true⟩) hR4 (show h1.length ≠ h.length by omega)
    have hlen := A4.len
    refine ⟨m, bx, mx, (upd (upd pl 0 v) 1 (upd pl 0 v 0)), r, (h3.set h1.length ⟨Ci m bx mx (upd (upd pl 0 v) 1 (upd pl 0 v 0)) r, true⟩).set h.length ⟨Ci m bx mx (upd (upd pl 0 v) 1 (upd pl 0 v 0)) r, true⟩, hrr, (A4.set s (by omega) _).set s (Nat.le_refl _) _, ?_⟩
    (refine AC_begin (fun _ _ => Try.call73 _ _) Try.func73 rfl Try.ntmps73 Try.results73 (fun hwf => ?_); simp only [List.length_cons, List.length_nil, Nat.reduceAdd, Nat.reduceSub, List.replicate, List.cons_append, List.nil_append])
    (repeat (first | ((first | (refine And.intro ?_ ?_; focus exact PLA) | ((first | with_reducible apply callB_i | with_reducible apply callK_intro | with_reducible apply callQ_i); (focus (first | assumption | ((first | with_reducible apply c1 | with_reducible apply c2 | with_reducible apply c3) <;> (first | assumption | rfl | (simp (disch := omega) only [go_sem]; first | done | rfl) | omega | decide | (simp; done))))); (try exact WP_au)) | refine WA_seq (WA_region ?_) | refine WA_region ?_ | refine WA_exit ?_); try simp (maxSteps := 1000000) (disch := first | omega | rfl | decide | (simp only [List.length_cons, List.length_nil, List.length_append, LV] <;> omega)) only [go_sem, Nat.reduceAdd, Int.reduceAdd, Int.reduceSub, Int.reduceMul, Bool.not_true, Bool.not_false, Ci_splice_all, Ci_row01', Ci_l261, Ci_g2, Ci_g273, Ci_s1, Ci_s273, Ci_s274, beq_self_eq_true, show ((3 : Nat) == 0) = false from rfl, show ((3 : Nat) == 1) = false from rfl, show ((3 : Nat) == 2) = false from rfl, hC4, look_set (blt hC4), List.set_set, hR5]) | refine WA_seq ?_ | refine WA_block ?_ | (refine WA_skip ?_; try simp only [go_sem]) | (refine WA_ret ?_; try simp only [go_sem]) | refine WA_ct rfl ?_ | refine WA_cf rfl ?_))
    refine ret_full (by first | exact .inr rfl | exact .inl rfl) (by simpa using hlen) ?_
    simp (maxSteps := 1000000) (disch := first | omega | rfl | decide | (simp only [List.length_cons, List.length_nil, List.length_append, LV] <;> omega)) only [go_sem, Nat.reduceAdd, Int.reduceAdd, Int.reduceSub, Int.reduceMul, Bool.not_true, Bool.not_false, look_set (blt hR5)]
    try rfl
  have hx3 : (x == 3) = false := by simpa using x3
  by_cases x4 : x = 4
  · subst x4
    obtain ⟨v, h3, hv, a4, c3⟩ := pickL_aft a3.src [.int .i64 0, .int .i64 21, .int .i64 (-1)] (n := 3) rfl rfl (by omega) (by omega)
    have A4 := A3.trans a4
    have hC4 := a4.keep _ _ hbc hC
    have hR4 := a4.keep _ _ (by omega) hR2
    have hvr : -1 ≤ v ∧ v ≤ 1000 := by
      obtain ⟨i, hi, e⟩ := hv
      match i, hi, e with
      | 0, _, e => cases e; omega
      | 1, _, e => cases e; omega
      | 2, _, e => cases e; omega
      | n + 3, h, _ => exact absurd h (by omega)
    have hR5 := set_at (x := ⟨Ci m bx mx pl v, true⟩) hR4 (show h1.length ≠ h.length by omega)
    have hlen := A4.len
    refine ⟨m, bx, mx, pl, v, (h3.set h1.length ⟨Ci m bx mx pl v, true⟩).set h.length ⟨Ci m bx mx pl v, true⟩, hvr, (A4.set s (by omega) _).set s (Nat.le_refl _) _, ?_⟩
    (refine AC_begin (fun _ _ => Try.call73 _ _) Try.func73 rfl Try.ntmps73 Try.results73 (fun hwf => ?_); simp only [List.length_cons, List.length_nil, Nat.reduceAdd, Nat.reduceSub, List.replicate, List.cons_append, List.nil_append])
    (repeat (first | ((first | (refine And.intro ?_ ?_; focus exact PLA) | ((first | with_reducible apply callB_i | with_reducible apply callK_intro | with_reducible apply callQ_i); (focus (first | assumption | ((first | with_reducible apply c1 | with_reducible apply c2 | with_reducible apply c3) <;> (first | assumption | rfl | (simp (disch := omega) only [go_sem]; first | done | rfl) | omega | decide | (simp; done))))); (try exact WP_au)) | refine WA_seq (WA_region ?_) | refine WA_region ?_ | refine WA_exit ?_); try simp (maxSteps := 1000000) (disch := first | omega | rfl | decide | (simp only [List.length_cons, List.length_nil, List.length_append, LV] <;> omega)) only [go_sem, Nat.reduceAdd, Int.reduceAdd, Int.reduceSub, Int.reduceMul, Bool.not_true, Bool.not_false, Ci_splice_all, Ci_row01', Ci_l261, Ci_g2, Ci_g273, Ci_s1, Ci_s273, Ci_s274, beq_self_eq_true, show ((4 : Nat) == 0) = false from rfl, show ((4 : Nat) == 1) = false from rfl, show ((4 : Nat) == 2) = false from rfl, show ((4 : Nat) == 3) = false from rfl, hC4, look_set (blt hC4), List.set_set, hR5]) | refine WA_seq ?_ | refine WA_block ?_ | (refine WA_skip ?_; try simp only [go_sem]) | (refine WA_ret ?_; try simp only [go_sem]) | refine WA_ct rfl ?_ | refine WA_cf rfl ?_))
    refine ret_full (by first | exact .inr rfl | exact .inl rfl) (by simpa using hlen) ?_
    simp (maxSteps := 1000000) (disch := first | omega | rfl | decide | (simp only [List.length_cons, List.length_nil, List.length_append, LV] <;> omega)) only [go_sem, Nat.reduceAdd, Int.reduceAdd, Int.reduceSub, Int.reduceMul, Bool.not_true, Bool.not_false, look_set (blt hR5)]
    try rfl
  have hx4 : (x == 4) = false := by simpa using x4
  have hR5 := set_at (x := ⟨Ci m bx mx pl r, true⟩) hR2 (show h1.length ≠ h.length by omega)
  have hlen := A3.len
  refine ⟨m, bx, mx, pl, r, h2.set h.length ⟨Ci m bx mx pl r, true⟩, hrr, A3.set s (Nat.le_refl _) _, ?_⟩
  (refine AC_begin (fun _ _ => Try.call73 _ _) Try.func73 rfl Try.ntmps73 Try.results73 (fun hwf => ?_); simp only [List.length_cons, List.length_nil, Nat.reduceAdd, Nat.reduceSub, List.replicate, List.cons_append, List.nil_append])
  (repeat (first | ((first | (refine And.intro ?_ ?_; focus exact PLA) | ((first | with_reducible apply callB_i | with_reducible apply callK_intro | with_reducible apply callQ_i); (focus (first | assumption | ((first | with_reducible apply c1 | with_reducible apply c2) <;> (first | assumption | rfl | (simp (disch := omega) only [go_sem]; first | done | rfl) | omega | decide | (simp; done))))); (try exact WP_au)) | refine WA_seq (WA_region ?_) | refine WA_region ?_ | refine WA_exit ?_); try simp (maxSteps := 1000000) (disch := first | omega | rfl | decide | (simp only [List.length_cons, List.length_nil, List.length_append, LV] <;> omega)) only [go_sem, Nat.reduceAdd, Int.reduceAdd, Int.reduceSub, Int.reduceMul, Bool.not_true, Bool.not_false, Ci_splice_all, hx0, hx1, hx2, hx3, hx4, hC, hR2]) | refine WA_seq ?_ | refine WA_block ?_ | (refine WA_skip ?_; try simp only [go_sem]) | (refine WA_ret ?_; try simp only [go_sem]) | refine WA_ct rfl ?_ | refine WA_cf rfl ?_))
  refine ret_full (by first | exact .inr rfl | exact .inl rfl) (by simpa using hlen) ?_
  simp (maxSteps := 1000000) (disch := first | omega | rfl | decide | (simp only [List.length_cons, List.length_nil, List.length_append, LV] <;> omega)) only [go_sem, Nat.reduceAdd, Int.reduceAdd, Int.reduceSub, Int.reduceMul, Bool.not_true, Bool.not_false, look_set (blt hR2)]
  try rfl

end Go.Proofs.Ytcfpninklbnifaa
/- Draws for the law on ciphers. -/
namespace Go.Proofs.Ytcfpninklbnifaa
set_option linter.unusedSimpArgs false
set_option linter.unusedVariables false
set_option maxRecDepth 20000
set_option maxHeartbeats 1000000
open Go.Abs

def tup4 (a b c d : Option Value) : Option Value :=
  match a, b, c, d with
  | some a, some b, some c, some d => if (!isTup a && (!isTup b && (!isTup c && !isTup d))) = true then some (.tuple #[a, b, c, d]) else none
  | _, _, _, _ => none
@[go_sem] theorem ares_four {P : Program} {s : AS} (r r' r'' r3 : ResultVar) : aresults P [r, r', r'', r3] s = tup4 (ares1 P s r) (ares1 P s r') (ares1 P s r'') (ares1 P s r3) := by
  unfold aresults tup4
  simp only [mapO]
  cases ares1 P s r with
  | none => rfl
  | some a =>
    cases ares1 P s r' with
    | none => rfl
    | some b =>
      cases ares1 P s r'' with
      | none => rfl
      | some c =>
        cases ares1 P s r3 with
        | none => rfl
        | some d => simp [Option.bind, Option.map]
@[go_sem] theorem tup4_some {a b c d : Value} (ha : isTup a = false) (hb : isTup b = false) (hc : isTup c = false) (hd : isTup d = false) : tup4 (some a) (some b) (some c) (some d) = some (.tuple #[a, b, c, d]) := by
  unfold tup4; simp [ha, hb, hc, hd]
theorem Ci_stC (a0 : Int) (a1 a2 a3 : Nat → UInt8) (a4 : Int) (b0 : Int) (b1 b2 b3 : Nat → UInt8) (b4 : Int) {h : List Blk} {b : Nat} : storeRow h b (some ⟨Ci a0 a1 a2 a3 a4, true⟩) 0 290 (Ci b0 b1 b2 b3 b4) = some (J, h.set b ⟨Ci b0 b1 b2 b3 b4, true⟩) := Ci_store _ _ _ _ _ (Ci_length ..)
theorem Cd.but {M : List Blk} {b n : Nat} {cv : Value} {f : Nat → UInt8} (c : Cd M b cv n f) : Cd (roBut b M) b cv n f := by
  cases c with
  | nil => exact .nil f
  | sl _ hb hne =>
    refine .sl (rc := false) f ?_ hne
    unfold roBut
    rw [List.getElem?_set_ne hne.symm]
    exact ro_of hb
theorem Cd.unbut {M : List Blk} {b n : Nat} {cv : Value} {f : Nat → UInt8} (c : Cd (roBut b M) b cv n f) : Cd M b cv n f := by
  cases c with
  | nil => exact .nil f
  | @sl _ bc _ rc hb hne =>
    rcases roBut_get hb with ⟨_, k', h1, h2, _⟩ | ⟨h1, _⟩
    · obtain ⟨cs, r⟩ := k'
      simp only at h2
      subst h2
      exact .sl f h1 hne
    · exact absurd h1 hne
theorem next_N {M : List Blk} {b : Nat} {cv : Value} (s : SrcAt M b cv) {N : Nat} (hN : 0 < N) (hN2 : N ≤ 1125899906842624) :
    ∃ (x : Nat) (k k' : Blk) (M' : List Blk), x < N ∧ M[b]? = some k ∧ k.rw = true ∧ M' = M.set b k' ∧ Aft M M' b cv ∧ AC Try.prog 53 [pt b 0, .int .i64 N] (roBut b M) (.int .i64 x) ((roBut b M).set b k') := by
  obtain ⟨k, hb, a, hs, n, f, e, h1, h2, c⟩ := s
  obtain ⟨x, k', hx, ⟨a', hs', n', f', e', h1', h2', c'⟩, hc⟩ := next_ex (roBut_here hb) ⟨a, hs, n, f, e, h1, h2, c.but⟩ hN hN2
  exact ⟨x, k, k', _, hx, hb, by rw [e], rfl, aft_set (blt hb) ⟨a', hs', n', f', e', h1', h2', c'.unbut⟩, hc⟩

end Go.Proofs.Ytcfpninklbnifaa
/- Which boxes and places are permutations, which matrices have inverses: networks and ciphers. -/
namespace Go.Proofs.Ytcfpninklbnifaa
set_option linter.unusedSimpArgs false
set_option linter.unusedVariables false
set_option maxRecDepth 20000
set_option maxHeartbeats 1000000
open Go.Abs

/-- A row of truths. -/
abbrev Ts (n : Nat) (f : Nat → Bool) : List Value := Vs n fun i => .bool (f i)
theorem bft : (false == true) = false := rfl
theorem upd_bool (f : Nat → Bool) (i : Nat) (x : Bool) : upd (fun i => Value.bool (f i)) i (.bool x) = fun j => Value.bool (upd f i x j) := by
  funext j; unfold upd; split <;> rfl
/-- Which values the first k places have. -/
def metB (f : Nat → UInt8) (k : Nat) : Nat → Bool := fun y => (List.range k).any fun i => (f i).toNat == y
theorem metB_zero (f : Nat → UInt8) : metB f 0 = fun _ => false := rfl
theorem metB_set (f : Nat → UInt8) (k : Nat) : upd (metB f k) (f k).toNat true = metB f (k + 1) := by
  funext y
  unfold upd metB
  rw [List.range_succ, List.any_append]
  by_cases h : y = (f k).toNat
  · subst h; simp
  · rw [if_neg h]
    have : ((f k).toNat == y) = false := by simpa using fun e => h e.symm
    simp [this]
theorem metB_at (f : Nat → UInt8) (k : Nat) : metB f k (f k).toNat = twiceAt f k k := by
  unfold metB twiceAt
  congr 1
  funext i
  rw [Bool.eq_iff_iff]
  simp only [beq_iff_eq]
  constructor
  · intro h; exact (UInt8.toNat_inj.1 h).symm
  · intro h; rw [h]
theorem twice_iff (f : Nat → UInt8) (n : Nat) : twiceP f n = false ↔ ∀ i j, i < n → j < n → f i = f j → i = j := by
  have key : twiceP f n = true ↔ ∃ i j, i < n ∧ j < i ∧ f i = f j := by
    unfold twiceP twiceAt
    simp only [List.any_eq_true, List.mem_range, beq_iff_eq]
    constructor
    · rintro ⟨i, hi, j, hj, e⟩; exact ⟨i, j, hi, hj, e⟩
    · rintro ⟨i, j, hi, hj, e⟩; exact ⟨i, hi, j, hj, e⟩
  constructor
  · intro h i j hi hj e
    rcases Nat.lt_trichotomy i j with h1 | h1 | h1
    · exact absurd (key.2 ⟨j, i, hj, h1, e.symm⟩) (by rw [h]; decide)
    · exact h1
    · exact absurd (key.2 ⟨i, j, hi, h1, e⟩) (by rw [h]; decide)
  · intro h
    cases ht : twiceP f n with
    | false => rfl
    | true => obtain ⟨i, j, hi, hj, e⟩ := key.1 ht; have := h i j hi (by omega) e; omega
/-- Whether a box is a permutation. -/
def boxOk (f : Nat → UInt8) : Bool := !twiceP f 256
theorem seen_all (f : Nat → UInt8) : (List.range 256).all (metB f 256) = boxOk f := by
  unfold boxOk
  rw [Bool.eq_iff_iff, Bool.not_eq_true', twice_iff]
  have hr : ∀ i, i < 256 → (f i).toNat < 256 := fun i _ => u8_lt (f i)
  constructor
  · intro h i j hi hj e
    refine surj_inj 256 (fun i => (f i).toNat) hr (fun y hy => ?_) i j hi hj (by rw [e])
    have := List.all_eq_true.1 h y (List.mem_range.2 hy)
    obtain ⟨x, hx, hx2⟩ := List.any_eq_true.1 this
    exact ⟨x, List.mem_range.1 hx, by simpa using hx2⟩
  · intro h
    rw [List.all_eq_true]
    intro y hy
    obtain ⟨i, hi, e⟩ := inj_surj 256 (fun i => (f i).toNat) hr (fun i j hi hj e => h i j hi hj (UInt8.toNat_inj.1 e)) y (List.mem_range.1 hy)
    exact List.any_eq_true.2 ⟨i, List.mem_range.2 hi, by simpa using e⟩

theorem boxS_ac (f : Nat → UInt8) (h : List Blk) : AC Try.prog 76 [.agg (Bs 256 f).toArray] h (.bool (boxOk f)) h := by
  (refine AC_begin (fun _ _ => Try.call76 _ _) Try.func76 rfl Try.ntmps76 Try.results76 (fun hwf => ?_); simp only [List.length_cons, List.length_nil, Nat.reduceAdd, Nat.reduceSub, List.replicate, List.cons_append, List.nil_append])
  (repeat (first | ((first | (refine And.intro ?_ ?_; focus exact PLA) | refine WA_seq (WA_region ?_) | refine WA_region ?_ | refine WA_exit ?_); try simp (maxSteps := 1000000) (disch := first | omega | rfl | decide | (simp only [List.length_cons, List.length_nil, List.length_append, LV] <;> omega)) only [go_sem, Nat.reduceAdd, Int.reduceAdd, Int.reduceSub, Int.reduceMul, Bool.not_true, Bool.not_false]) | refine WA_seq ?_ | refine WA_block ?_ | (refine WA_skip ?_; try simp only [go_sem]) | (refine WA_ret ?_; try simp only [go_sem]) | refine WA_ct rfl ?_ | refine WA_cf rfl ?_))
  refine WA_forPJ (fun k => twiceP f k = false) (fun k => [(2, J), (4, .int .i64 k), (6, J), (7, J), (8, J), (9, J), (10, J), (11, J), (12, J), (13, J), (14, J), (15, J), (16, J), (17, J), (18, J)]) (fun k => [(1, ⟨Ts 256 (metB f k), true⟩)]) (256) ?_ ?_ ?_ ?_ <;> (try simp only [patT_cons, patT_nil, patL_cons, patL_nil, list_set_zero, list_set_succ, blk_set_zero, blk_set_succ])
  · rfl
  · rw [metB_zero]
    (refine Drop_slots (by first | exact Nat.le_refl _ | simp) ?_; focus ((try simp only [JL_same, JL_J, JL_nil, Int.reduceAdd, Nat.sub_sub, Int.natCast_add, Int.natCast_one, Int.natCast_zero, Int.cast_ofNat_Int, Nat.add_zero, Bool.false_eq_true, if_false, if_true]); (try exact JL_refl _)))
  · intro i hi hJ
    have hf := u8_lt (f i)
    cases he : twiceAt f i i
    · (repeat (first | ((first | (refine And.intro ?_ ?_; focus exact PLA) | refine WA_seq (WA_region ?_) | refine WA_region ?_ | refine WA_exit ?_); try simp (maxSteps := 1000000) (disch := first | omega | rfl | decide | (simp only [List.length_cons, List.length_nil, List.length_append, LV] <;> omega)) only [go_sem, Nat.reduceAdd, Int.reduceAdd, Int.reduceSub, Int.reduceMul, Bool.not_true, Bool.not_false, metB_at, he, upd_bool, metB_set]) | refine WA_seq ?_ | refine WA_block ?_ | (refine WA_skip ?_; try simp only [go_sem]) | (refine WA_ret ?_; try simp only [go_sem]) | refine WA_ct rfl ?_ | refine WA_cf rfl ?_))
      refine ⟨twiceP_s hJ he, ?_⟩
      (refine Drop_slots (by first | exact Nat.le_refl _ | simp) ?_; focus ((try simp only [JL_same, JL_J, JL_nil, Int.reduceAdd, Nat.sub_sub, Int.natCast_add, Int.natCast_one, Int.natCast_zero, Int.cast_ofNat_Int, Nat.add_zero, Bool.false_eq_true, if_false, if_true]); (try exact JL_refl _)))
    · (repeat (first | ((first | (refine And.intro ?_ ?_; focus exact PLA) | refine WA_seq (WA_region ?_) | refine WA_region ?_ | refine WA_exit ?_); try simp (maxSteps := 1000000) (disch := first | omega | rfl | decide | (simp only [List.length_cons, List.length_nil, List.length_append, LV] <;> omega)) only [go_sem, Nat.reduceAdd, Int.reduceAdd, Int.reduceSub, Int.reduceMul, Bool.not_true, Bool.not_false, metB_at, he]) | refine WA_seq ?_ | refine WA_block ?_ | (refine WA_skip ?_; try simp only [go_sem]) | (refine WA_ret ?_; try simp only [go_sem]) | refine WA_ct rfl ?_ | refine WA_cf rfl ?_))
      ((first | refine ret_nA ?_ | refine ret_sA ?_ | refine ret_fA ?_); simp (maxSteps := 1000000) (disch := first | omega | rfl | decide | (simp only [List.length_cons, List.length_nil, List.length_append, LV] <;> omega)) only [go_sem, Nat.reduceAdd, Int.reduceAdd, Int.reduceSub, Int.reduceMul, Bool.not_true, Bool.not_false, boxOk, twiceP_t hi he]; try rfl)
  · intro hJ
    (repeat (first | ((first | (refine And.intro ?_ ?_; focus exact PLA) | refine WA_seq (WA_region ?_) | refine WA_region ?_ | refine WA_exit ?_); try simp (maxSteps := 1000000) (disch := first | omega | rfl | decide | (simp only [List.length_cons, List.length_nil, List.length_append, LV] <;> omega)) only [go_sem, Nat.reduceAdd, Int.reduceAdd, Int.reduceSub, Int.reduceMul, Bool.not_true, Bool.not_false]) | refine WA_seq ?_ | refine WA_block ?_ | (refine WA_skip ?_; try simp only [go_sem]) | (refine WA_ret ?_; try simp only [go_sem]) | refine WA_ct rfl ?_ | refine WA_cf rfl ?_))
    ((first | refine ret_nA ?_ | refine ret_sA ?_ | refine ret_fA ?_); simp (maxSteps := 1000000) (disch := first | omega | rfl | decide | (simp only [List.length_cons, List.length_nil, List.length_append, LV] <;> omega)) only [go_sem, Nat.reduceAdd, Int.reduceAdd, Int.reduceSub, Int.reduceMul, Bool.not_true, Bool.not_false, boxOk, hJ]; try rfl)

/-- How many places ahead of the first falsehood. -/
def allT (f : Nat → Bool) (n : Nat) : Bool := (List.range n).all f
theorem allT_s {f : Nat → Bool} {k : Nat} (h : allT f k = true) (h2 : f k = true) : allT f (k + 1) = true := by
  unfold allT at *; rw [List.range_succ, List.all_append, h]; simpa using h2
theorem indexT_ac {h : List Blk} {b n : Nat} {f : Nat → Bool} {r : Bool} (hb : h[b]? = some ⟨Ts n f, r⟩) (hn : n ≤ 1048576) : ∃ x : Int, AC Try.prog 114 [sl b 0 n 1, .bool false] h (.int .i64 x) h ∧ decide (0 ≤ x) = !allT f n := by
  have hbl := blt hb
  cases ha : allT f n
  · have hex : ∃ i, i < n ∧ f i = false ∧ allT f i = true := by
      clear hb hn hbl
      induction n with
      | zero => cases ha
      | succ n ih =>
        cases hn : allT f n with
        | false => obtain ⟨i, h1, h2, h3⟩ := ih hn; exact ⟨i, by omega, h2, h3⟩
        | true =>
          cases hf : f n with
          | false => exact ⟨n, by omega, hf, hn⟩
          | true => rw [allT_s hn hf] at ha; cases ha
    obtain ⟨i, hi, hf, hall⟩ := hex
    refine ⟨(i : Int), ?_, by simp⟩
    (refine AC_begin (fun _ _ => Try.call114 _ _) Try.func114 rfl Try.ntmps114 Try.results114 (fun hwf => ?_); simp only [List.length_cons, List.length_nil, Nat.reduceAdd, Nat.reduceSub, List.replicate, List.cons_append, List.nil_append])
    (repeat (first | ((first | (refine And.intro ?_ ?_; focus exact PLA) | refine WA_seq (WA_region ?_) | refine WA_region ?_ | refine WA_exit ?_); try simp (maxSteps := 1000000) (disch := first | omega | rfl | decide | (simp only [List.length_cons, List.length_nil, List.length_append, LV] <;> omega)) only [go_sem, Nat.reduceAdd, Int.reduceAdd, Int.reduceSub, Int.reduceMul, Bool.not_true, Bool.not_false]) | refine WA_seq ?_ | refine WA_block ?_ | (refine WA_skip ?_; try simp only [go_sem]) | (refine WA_ret ?_; try simp only [go_sem]) | refine WA_ct rfl ?_ | refine WA_cf rfl ?_))
    refine WA_forH (fun k => [(4, J), (5, J), (8, .int .i64 k), (9, J), (10, J), (11, J), (12, J), (13, J), (14, J), (15, J), (16, J), (17, J), (18, J)]) (fun k => h) (i) ?_ ?_ ?_ <;> (try simp only [patT_cons, patT_nil, patL_cons, patL_nil, list_set_zero, list_set_succ, blk_set_zero, blk_set_succ])
    · (refine Drop_slots (by first | exact Nat.le_refl _ | simp) ?_; focus ((try simp only [JL_same, JL_J, JL_nil, Int.reduceAdd, Nat.sub_sub, Int.natCast_add, Int.natCast_one, Int.natCast_zero, Int.cast_ofNat_Int, Nat.add_zero, Bool.false_eq_true, if_false, if_true]); (try exact JL_refl _)))
    · intro k hk
      have hfk : f k = true := List.all_eq_true.1 hall k (List.mem_range.2 hk)
      (repeat (first | ((first | (refine And.intro ?_ ?_; focus exact PLA) | refine WA_seq (WA_region ?_) | refine WA_region ?_ | refine WA_exit ?_); try simp (maxSteps := 1000000) (disch := first | omega | rfl | decide | (simp only [List.length_cons, List.length_nil, List.length_append, LV] <;> omega)) only [go_sem, Nat.reduceAdd, Int.reduceAdd, Int.reduceSub, Int.reduceMul, Bool.not_true, Bool.not_false, hb, hfk, bft]) | refine WA_seq ?_ | refine WA_block ?_ | (refine WA_skip ?_; try simp only [go_sem]) | (refine WA_ret ?_; try simp only [go_sem]) | refine WA_ct rfl ?_ | refine WA_cf rfl ?_))
      (refine Drop_slots (by first | exact Nat.le_refl _ | simp) ?_; focus ((try simp only [JL_same, JL_J, JL_nil, Int.reduceAdd, Nat.sub_sub, Int.natCast_add, Int.natCast_one, Int.natCast_zero, Int.cast_ofNat_Int, Nat.add_zero, Bool.false_eq_true, if_false, if_true]); (try exact JL_refl _)))
    · (repeat (first | ((first | (refine And.intro ?_ ?_; focus exact PLA) | refine WA_seq (WA_region ?_) | refine WA_region ?_ | refine WA_exit ?_); try simp (maxSteps := 1000000) (disch := first | omega | rfl | decide | (simp only [List.length_cons, List.length_nil, List.length_append, LV] <;> omega)) only [go_sem, Nat.reduceAdd, Int.reduceAdd, Int.reduceSub, Int.reduceMul, Bool.not_true, Bool.not_false, hb, hf]) | refine WA_seq ?_ | refine WA_block ?_ | (refine WA_skip ?_; try simp only [go_sem]) | (refine WA_ret ?_; try simp only [go_sem]) | refine WA_ct rfl ?_ | refine WA_cf rfl ?_))
      ((first | refine ret_nA ?_ | refine ret_sA ?_ | refine ret_fA ?_); simp (maxSteps := 1000000) (disch := first | omega | rfl | decide | (simp only [List.length_cons, List.length_nil, List.length_append, LV] <;> omega)) only [go_sem, Nat.reduceAdd, Int.reduceAdd, Int.reduceSub, Int.reduceMul, Bool.not_true, Bool.not_false]; try rfl)
  · refine ⟨-1, ?_, by simp⟩
    (refine AC_begin (fun _ _ => Try.call114 _ _) Try.func114 rfl Try.ntmps114 Try.results114 (fun hwf => ?_); simp only [List.length_cons, List.length_nil, Nat.reduceAdd, Nat.reduceSub, List.replicate, List.cons_append, List.nil_append])
    (repeat (first | ((first | (refine And.intro ?_ ?_; focus exact PLA) | refine WA_seq (WA_region ?_) | refine WA_region ?_ | refine WA_exit ?_); try simp (maxSteps := 1000000) (disch := first | omega | rfl | decide | (simp only [List.length_cons, List.length_nil, List.length_append, LV] <;> omega)) only [go_sem, Nat.reduceAdd, Int.reduceAdd, Int.reduceSub, Int.reduceMul, Bool.not_true, Bool.not_false]) | refine WA_seq ?_ | refine WA_block ?_ | (refine WA_skip ?_; try simp only [go_sem]) | (refine WA_ret ?_; try simp only [go_sem]) | refine WA_ct rfl ?_ | refine WA_cf rfl ?_))
    refine WA_forH (fun k => [(4, J), (5, J), (8, .int .i64 k), (9, J), (10, J), (11, J), (12, J), (13, J), (14, J), (15, J), (16, J), (17, J), (18, J)]) (fun k => h) (n) ?_ ?_ ?_ <;> (try simp only [patT_cons, patT_nil, patL_cons, patL_nil, list_set_zero, list_set_succ, blk_set_zero, blk_set_succ])
    · (refine Drop_slots (by first | exact Nat.le_refl _ | simp) ?_; focus ((try simp only [JL_same, JL_J, JL_nil, Int.reduceAdd, Nat.sub_sub, Int.natCast_add, Int.natCast_one, Int.natCast_zero, Int.cast_ofNat_Int, Nat.add_zero, Bool.false_eq_true, if_false, if_true]); (try exact JL_refl _)))
    · intro k hk
      have hfk : f k = true := List.all_eq_true.1 ha k (List.mem_range.2 hk)
      (repeat (first | ((first | (refine And.intro ?_ ?_; focus exact PLA) | refine WA_seq (WA_region ?_) | refine WA_region ?_ | refine WA_exit ?_); try simp (maxSteps := 1000000) (disch := first | omega | rfl | decide | (simp only [List.length_cons, List.length_nil, List.length_append, LV] <;> omega)) only [go_sem, Nat.reduceAdd, Int.reduceAdd, Int.reduceSub, Int.reduceMul, Bool.not_true, Bool.not_false, hb, hfk, bft]) | refine WA_seq ?_ | refine WA_block ?_ | (refine WA_skip ?_; try simp only [go_sem]) | (refine WA_ret ?_; try simp only [go_sem]) | refine WA_ct rfl ?_ | refine WA_cf rfl ?_))
      (refine Drop_slots (by first | exact Nat.le_refl _ | simp) ?_; focus ((try simp only [JL_same, JL_J, JL_nil, Int.reduceAdd, Nat.sub_sub, Int.natCast_add, Int.natCast_one, Int.natCast_zero, Int.cast_ofNat_Int, Nat.add_zero, Bool.false_eq_true, if_false, if_true]); (try exact JL_refl _)))
    · (repeat (first | ((first | (refine And.intro ?_ ?_; focus exact PLA) | refine WA_seq (WA_region ?_) | refine WA_region ?_ | refine WA_exit ?_); try simp (maxSteps := 1000000) (disch := first | omega | rfl | decide | (simp only [List.length_cons, List.length_nil, List.length_append, LV] <;> omega)) only [go_sem, Nat.reduceAdd, Int.reduceAdd, Int.reduceSub, Int.reduceMul, Bool.not_true, Bool.not_false]) | refine WA_seq ?_ | refine WA_block ?_ | (refine WA_skip ?_; try simp only [go_sem]) | (refine WA_ret ?_; try simp only [go_sem]) | refine WA_ct rfl ?_ | refine WA_cf rfl ?_))
      ((first | refine ret_nA ?_ | refine ret_sA ?_ | refine ret_fA ?_); simp (maxSteps := 1000000) (disch := first | omega | rfl | decide | (simp only [List.length_cons, List.length_nil, List.length_append, LV] <;> omega)) only [go_sem, Nat.reduceAdd, Int.reduceAdd, Int.reduceSub, Int.reduceMul, Bool.not_true, Bool.not_false]; try rfl)
theorem containsT_ac {h : List Blk} {b n : Nat} {f : Nat → Bool} {r : Bool} (hb : h[b]? = some ⟨Ts n f, r⟩) (hn : n ≤ 1048576) : AC Try.prog 85 [sl b 0 n 1, .bool false] h (.bool (!allT f n)) h := by
  obtain ⟨x, hx, hx2⟩ := indexT_ac hb hn
  (refine AC_begin (fun _ _ => Try.call85 _ _) Try.func85 rfl Try.ntmps85 Try.results85 (fun hwf => ?_); simp only [List.length_cons, List.length_nil, Nat.reduceAdd, Nat.reduceSub, List.replicate, List.cons_append, List.nil_append])
  (repeat (first | ((first | (refine And.intro ?_ ?_; focus exact PLA) | ((first | with_reducible apply callB_i | with_reducible apply callK_intro | with_reducible apply callQ_i); (focus (first | assumption | (with_reducible apply hx <;> (first | assumption | rfl | (simp (disch := omega) only [go_sem]; first | done | rfl) | omega | decide | (simp; done))))); (try exact WP_au)) | refine WA_seq (WA_region ?_) | refine WA_region ?_ | refine WA_exit ?_); try simp (maxSteps := 1000000) (disch := first | omega | rfl | decide | (simp only [List.length_cons, List.length_nil, List.length_append, LV] <;> omega)) only [go_sem, Nat.reduceAdd, Int.reduceAdd, Int.reduceSub, Int.reduceMul, Bool.not_true, Bool.not_false, hx2]) | refine WA_seq ?_ | refine WA_block ?_ | (refine WA_skip ?_; try simp only [go_sem]) | (refine WA_ret ?_; try simp only [go_sem]) | refine WA_ct rfl ?_ | refine WA_cf rfl ?_))
  ((first | refine ret_nA ?_ | refine ret_sA ?_ | refine ret_fA ?_); simp (maxSteps := 1000000) (disch := first | omega | rfl | decide | (simp only [List.length_cons, List.length_nil, List.length_append, LV] <;> omega)) only [go_sem, Nat.reduceAdd, Int.reduceAdd, Int.reduceSub, Int.reduceMul, Bool.not_true, Bool.not_false, hx2]; try rfl)

theorem boxI_ac (f : Nat → UInt8) (h : List Blk) : AC Try.prog 47 [.agg (Bs 256 f).toArray] h (.bool (boxOk f)) h := by
  (refine AC_begin (fun _ _ => Try.call47 _ _) Try.func47 rfl Try.ntmps47 Try.results47 (fun hwf => ?_); simp only [List.length_cons, List.length_nil, Nat.reduceAdd, Nat.reduceSub, List.replicate, List.cons_append, List.nil_append])
  (repeat (first | ((first | (refine And.intro ?_ ?_; focus exact PLA) | refine WA_seq (WA_region ?_) | refine WA_region ?_ | refine WA_exit ?_); try simp (maxSteps := 1000000) (disch := first | omega | rfl | decide | (simp only [List.length_cons, List.length_nil, List.length_append, LV] <;> omega)) only [go_sem, Nat.reduceAdd, Int.reduceAdd, Int.reduceSub, Int.reduceMul, Bool.not_true, Bool.not_false]) | refine WA_seq ?_ | refine WA_block ?_ | (refine WA_skip ?_; try simp only [go_sem]) | (refine WA_ret ?_; try simp only [go_sem]) | refine WA_ct rfl ?_ | refine WA_cf rfl ?_))
  refine WA_forP (fun k => [(5, J), (8, .int .i64 k), (9, J), (10, J), (11, J), (12, J), (13, J)]) (fun k => [(1, ⟨Ts 256 (metB f k), true⟩)]) (256) ?_ ?_ ?_ <;> (try simp only [patT_cons, patT_nil, patL_cons, patL_nil, list_set_zero, list_set_succ, blk_set_zero, blk_set_succ])
  · rw [metB_zero]
    (refine Drop_slots (by first | exact Nat.le_refl _ | simp) ?_; focus ((try simp only [JL_same, JL_J, JL_nil, Int.reduceAdd, Nat.sub_sub, Int.natCast_add, Int.natCast_one, Int.natCast_zero, Int.cast_ofNat_Int, Nat.add_zero, Bool.false_eq_true, if_false, if_true]); (try exact JL_refl _)))
  · intro i hi
    have hf := u8_lt (f i)
    (repeat (first | ((first | (refine And.intro ?_ ?_; focus exact PLA) | refine WA_seq (WA_region ?_) | refine WA_region ?_ | refine WA_exit ?_); try simp (maxSteps := 1000000) (disch := first | omega | rfl | decide | (simp only [List.length_cons, List.length_nil, List.length_append, LV] <;> omega)) only [go_sem, Nat.reduceAdd, Int.reduceAdd, Int.reduceSub, Int.reduceMul, Bool.not_true, Bool.not_false, upd_bool, metB_set]) | refine WA_seq ?_ | refine WA_block ?_ | (refine WA_skip ?_; try simp only [go_sem]) | (refine WA_ret ?_; try simp only [go_sem]) | refine WA_ct rfl ?_ | refine WA_cf rfl ?_))
    (refine Drop_slots (by first | exact Nat.le_refl _ | simp) ?_; focus ((try simp only [JL_same, JL_J, JL_nil, Int.reduceAdd, Nat.sub_sub, Int.natCast_add, Int.natCast_one, Int.natCast_zero, Int.cast_ofNat_Int, Nat.add_zero, Bool.false_eq_true, if_false, if_true]); (try exact JL_refl _)))
  · (repeat (first | ((first | (refine And.intro ?_ ?_; focus exact PLA) | ((first | with_reducible apply callB_i | with_reducible apply callK_intro | with_reducible apply callQ_i); (focus (first | assumption | (with_reducible apply containsT_ac <;> (first | assumption | (refine look_old ?_ _; assumption) | rfl | (simp (disch := omega) only [go_sem]; first | done | rfl) | omega | decide | (simp; done))))); (try exact WP_au)) | refine WA_seq (WA_region ?_) | refine WA_region ?_ | refine WA_exit ?_); try simp (maxSteps := 1000000) (disch := first | omega | rfl | decide | (simp only [List.length_cons, List.length_nil, List.length_append, LV] <;> omega)) only [go_sem, Nat.reduceAdd, Int.reduceAdd, Int.reduceSub, Int.reduceMul, Bool.not_true, Bool.not_false]) | refine WA_seq ?_ | refine WA_block ?_ | (refine WA_skip ?_; try simp only [go_sem]) | (refine WA_ret ?_; try simp only [go_sem]) | refine WA_ct rfl ?_ | refine WA_cf rfl ?_))
    ((first | refine ret_nA ?_ | refine ret_sA ?_ | refine ret_fA ?_); simp (maxSteps := 1000000) (disch := first | omega | rfl | decide | (simp only [List.length_cons, List.length_nil, List.length_append, LV] <;> omega)) only [go_sem, Nat.reduceAdd, Int.reduceAdd, Int.reduceSub, Int.reduceMul, Bool.not_true, Bool.not_false, Bool.not_not, show allT (metB f 256) 256 = boxOk f from seen_all f]; try rfl)

/-- Whether 16 bytes are a permutation of the places. -/
def plRange (f : Nat → UInt8) (k : Nat) : Bool := (List.range k).all fun i => decide ((f i).toNat < 16)
def plOk (f : Nat → UInt8) : Bool := plRange f 16 && !twiceP f 16
theorem plRange_s {f : Nat → UInt8} {k : Nat} (h : plRange f k = true) (h2 : (f k).toNat < 16) : plRange f (k + 1) = true := by
  unfold plRange at *; rw [List.range_succ, List.all_append, h]; simpa using h2
theorem plRange_f {f : Nat → UInt8} {k n : Nat} (hk : k < n) (h : 16 ≤ (f k).toNat) : plRange f n = false := by
  cases ha : plRange f n with
  | false => rfl
  | true => have := List.all_eq_true.1 ha k (List.mem_range.2 hk); simp at this; omega
theorem plOk_lt {f : Nat → UInt8} (h : plOk f = true) {i : Nat} (hi : i < 16) : (f i).toNat < 16 := by
  unfold plOk at h
  rw [Bool.and_eq_true] at h
  have := List.all_eq_true.1 h.1 i (List.mem_range.2 hi)
  simpa using this

theorem permS_ac (f : Nat → UInt8) (h : List Blk) : AC Try.prog 77 [.agg (Bs 16 f).toArray] h (.bool (plOk f)) h := by
  (refine AC_begin (fun _ _ => Try.call77 _ _) Try.func77 rfl Try.ntmps77 Try.results77 (fun hwf => ?_); simp only [List.length_cons, List.length_nil, Nat.reduceAdd, Nat.reduceSub, List.replicate, List.cons_append, List.nil_append])
  (repeat (first | ((first | (refine And.intro ?_ ?_; focus exact PLA) | refine WA_seq (WA_region ?_) | refine WA_region ?_ | refine WA_exit ?_); try simp (maxSteps := 1000000) (disch := first | omega | rfl | decide | (simp only [List.length_cons, List.length_nil, List.length_append, LV] <;> omega)) only [go_sem, Nat.reduceAdd, Int.reduceAdd, Int.reduceSub, Int.reduceMul, Bool.not_true, Bool.not_false, yieldA_at 4 14]) | refine WA_seq ?_ | refine WA_block ?_ | (refine WA_skip ?_; try simp only [go_sem]) | (refine WA_ret ?_; try simp only [go_sem]) | refine WA_ct rfl ?_ | refine WA_cf rfl ?_))
  refine WA_forPJ (fun k => twiceP f k = false ∧ plRange f k = true) (fun k => [(2, J), (4, .int .i64 k), (6, J), (7, J), (8, J), (9, J), (10, J), (11, J), (12, J), (13, J), (14, J), (15, J), (16, J), (17, J), (18, J), (19, J), (20, J), (21, J), (22, J), (23, J), (24, J)]) (fun k => [(1, ⟨Ts 16 (metB f k), true⟩)]) (16) ?_ ?_ ?_ ?_ <;> (try simp only [patT_cons, patT_nil, patL_cons, patL_nil, list_set_zero, list_set_succ, blk_set_zero, blk_set_succ])
  · exact ⟨rfl, rfl⟩
  · rw [metB_zero]
    (refine Drop_slots (by first | exact Nat.le_refl _ | simp) ?_; focus ((try simp only [JL_same, JL_J, JL_nil, Int.reduceAdd, Nat.sub_sub, Int.natCast_add, Int.natCast_one, Int.natCast_zero, Int.cast_ofNat_Int, Nat.add_zero, Bool.false_eq_true, if_false, if_true]); (try exact JL_refl _)))
  · intro i hi hJ
    rcases Nat.lt_or_ge (f i).toNat 16 with hf | hf
    · have hg : decide ((16 : UInt8) ≤ f i) = false := decide_eq_false (by show ¬ (16 : Nat) ≤ (f i).toNat; omega)
      cases he : twiceAt f i i
      · (repeat (first | ((first | (refine And.intro ?_ ?_; focus exact PLA) | refine WA_seq (WA_region ?_) | refine WA_region ?_ | refine WA_exit ?_); try simp (maxSteps := 1000000) (disch := first | omega | rfl | decide | (simp only [List.length_cons, List.length_nil, List.length_append, LV] <;> omega)) only [go_sem, Nat.reduceAdd, Int.reduceAdd, Int.reduceSub, Int.reduceMul, Bool.not_true, Bool.not_false, hg, metB_at, he, upd_bool, metB_set, yieldA_at 4 14]) | refine WA_seq ?_ | refine WA_block ?_ | (refine WA_skip ?_; try simp only [go_sem]) | (refine WA_ret ?_; try simp only [go_sem]) | refine WA_ct rfl ?_ | refine WA_cf rfl ?_))
        refine ⟨⟨twiceP_s hJ.1 he, plRange_s hJ.2 hf⟩, ?_⟩
        (refine Drop_slots (by first | exact Nat.le_refl _ | simp) ?_; focus ((try simp only [JL_same, JL_J, JL_nil, Int.reduceAdd, Nat.sub_sub, Int.natCast_add, Int.natCast_one, Int.natCast_zero, Int.cast_ofNat_Int, Nat.add_zero, Bool.false_eq_true, if_false, if_true]); (try exact JL_refl _)))
      · (repeat (first | ((first | (refine And.intro ?_ ?_; focus exact PLA) | refine WA_seq (WA_region ?_) | refine WA_region ?_ | refine WA_exit ?_); try simp (maxSteps := 1000000) (disch := first | omega | rfl | decide | (simp only [List.length_cons, List.length_nil, List.length_append, LV] <;> omega)) only [go_sem, Nat.reduceAdd, Int.reduceAdd, Int.reduceSub, Int.reduceMul, Bool.not_true, Bool.not_false, hg, metB_at, he, yieldA_at 4 14]) | refine WA_seq ?_ | refine WA_block ?_ | (refine WA_skip ?_; try simp only [go_sem]) | (refine WA_ret ?_; try simp only [go_sem]) | refine WA_ct rfl ?_ | refine WA_cf rfl ?_))
        ((first | refine ret_nA ?_ | refine ret_sA ?_ | refine ret_fA ?_); simp (maxSteps := 1000000) (disch := first | omega | rfl | decide | (simp only [List.length_cons, List.length_nil, List.length_append, LV] <;> omega)) only [go_sem, Nat.reduceAdd, Int.reduceAdd, Int.reduceSub, Int.reduceMul, Bool.not_true, Bool.not_false, plOk, twiceP_t hi he, Bool.not_true, Bool.and_false]; try rfl)
    · have hg : decide ((16 : UInt8) ≤ f i) = true := decide_eq_true (by show (16 : Nat) ≤ (f i).toNat; omega)
      (repeat (first | ((first | (refine And.intro ?_ ?_; focus exact PLA) | refine WA_seq (WA_region ?_) | refine WA_region ?_ | refine WA_exit ?_); try simp (maxSteps := 1000000) (disch := first | omega | rfl | decide | (simp only [List.length_cons, List.length_nil, List.length_append, LV] <;> omega)) only [go_sem, Nat.reduceAdd, Int.reduceAdd, Int.reduceSub, Int.reduceMul, Bool.not_true, Bool.not_false, hg, yieldA_at 4 14]) | refine WA_seq ?_ | refine WA_block ?_ | (refine WA_skip ?_; try simp only [go_sem]) | (refine WA_ret ?_; try simp only [go_sem]) | refine WA_ct rfl ?_ | refine WA_cf rfl ?_))
      ((first | refine ret_nA ?_ | refine ret_sA ?_ | refine ret_fA ?_); simp (maxSteps := 1000000) (disch := first | omega | rfl | decide | (simp only [List.length_cons, List.length_nil, List.length_append, LV] <;> omega)) only [go_sem, Nat.reduceAdd, Int.reduceAdd, Int.reduceSub, Int.reduceMul, Bool.not_true, Bool.not_false, plOk, plRange_f hi hf, Bool.false_and]; try rfl)
  · intro hJ
    (repeat (first | ((first | (refine And.intro ?_ ?_; focus exact PLA) | refine WA_seq (WA_region ?_) | refine WA_region ?_ | refine WA_exit ?_); try simp (maxSteps := 1000000) (disch := first | omega | rfl | decide | (simp only [List.length_cons, List.length_nil, List.length_append, LV] <;> omega)) only [go_sem, Nat.reduceAdd, Int.reduceAdd, Int.reduceSub, Int.reduceMul, Bool.not_true, Bool.not_false, yieldA_at 4 14]) | refine WA_seq ?_ | refine WA_block ?_ | (refine WA_skip ?_; try simp only [go_sem]) | (refine WA_ret ?_; try simp only [go_sem]) | refine WA_ct rfl ?_ | refine WA_cf rfl ?_))
    ((first | refine ret_nA ?_ | refine ret_sA ?_ | refine ret_fA ?_); simp (maxSteps := 1000000) (disch := first | omega | rfl | decide | (simp only [List.length_cons, List.length_nil, List.length_append, LV] <;> omega)) only [go_sem, Nat.reduceAdd, Int.reduceAdd, Int.reduceSub, Int.reduceMul, Bool.not_true, Bool.not_false, plOk, hJ.1, hJ.2]; try rfl)

theorem permI_ac (f : Nat → UInt8) (h : List Blk) : AC Try.prog 49 [.agg (Bs 16 f).toArray] h (.bool (plOk f)) h := by
  (refine AC_begin (fun _ _ => Try.call49 _ _) Try.func49 rfl Try.ntmps49 Try.results49 (fun hwf => ?_); simp only [List.length_cons, List.length_nil, Nat.reduceAdd, Nat.reduceSub, List.replicate, List.cons_append, List.nil_append])
  (repeat (first | ((first | (refine And.intro ?_ ?_; focus exact PLA) | refine WA_seq (WA_region ?_) | refine WA_region ?_ | refine WA_exit ?_); try simp (maxSteps := 1000000) (disch := first | omega | rfl | decide | (simp only [List.length_cons, List.length_nil, List.length_append, LV] <;> omega)) only [go_sem, Nat.reduceAdd, Int.reduceAdd, Int.reduceSub, Int.reduceMul, Bool.not_true, Bool.not_false]) | refine WA_seq ?_ | refine WA_block ?_ | (refine WA_skip ?_; try simp only [go_sem]) | (refine WA_ret ?_; try simp only [go_sem]) | refine WA_ct rfl ?_ | refine WA_cf rfl ?_))
  refine WA_forPJ (fun k => plRange f k = true) (fun k => [(2, J), (4, J), (6, .int .i64 k), (7, J), (8, J), (9, J), (10, J), (11, J)]) (fun k => []) (16) ?_ ?_ ?_ ?_ <;> (try simp only [patT_cons, patT_nil, patL_cons, patL_nil, list_set_zero, list_set_succ, blk_set_zero, blk_set_succ])
  · rfl
  · (refine Drop_slots (by first | exact Nat.le_refl _ | simp) ?_; focus ((try simp only [JL_same, JL_J, JL_nil, Int.reduceAdd, Nat.sub_sub, Int.natCast_add, Int.natCast_one, Int.natCast_zero, Int.cast_ofNat_Int, Nat.add_zero, Bool.false_eq_true, if_false, if_true]); (try exact JL_refl _)))
  · intro i hi hJ
    rcases Nat.lt_or_ge (f i).toNat 16 with hf | hf
    · have hg : decide ((15 : UInt8) < f i) = false := decide_eq_false (by show ¬ (15 : Nat) < (f i).toNat; omega)
      (repeat (first | ((first | (refine And.intro ?_ ?_; focus exact PLA) | refine WA_seq (WA_region ?_) | refine WA_region ?_ | refine WA_exit ?_); try simp (maxSteps := 1000000) (disch := first | omega | rfl | decide | (simp only [List.length_cons, List.length_nil, List.length_append, LV] <;> omega)) only [go_sem, Nat.reduceAdd, Int.reduceAdd, Int.reduceSub, Int.reduceMul, Bool.not_true, Bool.not_false, hg]) | refine WA_seq ?_ | refine WA_block ?_ | (refine WA_skip ?_; try simp only [go_sem]) | (refine WA_ret ?_; try simp only [go_sem]) | refine WA_ct rfl ?_ | refine WA_cf rfl ?_))
      refine ⟨plRange_s hJ hf, ?_⟩
      (refine Drop_slots (by first | exact Nat.le_refl _ | simp) ?_; focus ((try simp only [JL_same, JL_J, JL_nil, Int.reduceAdd, Nat.sub_sub, Int.natCast_add, Int.natCast_one, Int.natCast_zero, Int.cast_ofNat_Int, Nat.add_zero, Bool.false_eq_true, if_false, if_true]); (try exact JL_refl _)))
    · have hg : decide ((15 : UInt8) < f i) = true := decide_eq_true (by show (15 : Nat) < (f i).toNat; omega)
      (repeat (first | ((first | (refine And.intro ?_ ?_; focus exact PLA) | refine WA_seq (WA_region ?_) | refine WA_region ?_ | refine WA_exit ?_); try simp (maxSteps := 1000000) (disch := first | omega | rfl | decide | (simp only [List.length_cons, List.length_nil, List.length_append, LV] <;> omega)) only [go_sem, Nat.reduceAdd, Int.reduceAdd, Int.reduceSub, Int.reduceMul, Bool.not_true, Bool.not_false, hg]) | refine WA_seq ?_ | refine WA_block ?_ | (refine WA_skip ?_; try simp only [go_sem]) | (refine WA_ret ?_; try simp only [go_sem]) | refine WA_ct rfl ?_ | refine WA_cf rfl ?_))
      ((first | refine ret_nA ?_ | refine ret_sA ?_ | refine ret_fA ?_); simp (maxSteps := 1000000) (disch := first | omega | rfl | decide | (simp only [List.length_cons, List.length_nil, List.length_append, LV] <;> omega)) only [go_sem, Nat.reduceAdd, Int.reduceAdd, Int.reduceSub, Int.reduceMul, Bool.not_true, Bool.not_false, plOk, plRange_f hi hf, Bool.false_and]; try rfl)
  · intro hJ
    (repeat (first | ((first | (refine And.intro ?_ ?_; focus exact PLA) | ((first | with_reducible apply callB_i | with_reducible apply callK_intro | with_reducible apply callQ_i); (focus (first | assumption | (with_reducible apply areDifferent_ac <;> (first | assumption | (refine look_old ?_ _; assumption) | rfl | (simp (disch := omega) only [go_sem]; first | done | rfl) | omega | decide | (simp; done))))); (try exact WP_au)) | refine WA_seq (WA_region ?_) | refine WA_region ?_ | refine WA_exit ?_); try simp (maxSteps := 1000000) (disch := first | omega | rfl | decide | (simp only [List.length_cons, List.length_nil, List.length_append, LV] <;> omega)) only [go_sem, Nat.reduceAdd, Int.reduceAdd, Int.reduceSub, Int.reduceMul, Bool.not_true, Bool.not_false]) | refine WA_seq ?_ | refine WA_block ?_ | (refine WA_skip ?_; try simp only [go_sem]) | (refine WA_ret ?_; try simp only [go_sem]) | refine WA_ct rfl ?_ | refine WA_cf rfl ?_))
    ((first | refine ret_nA ?_ | refine ret_sA ?_ | refine ret_fA ?_); simp (maxSteps := 1000000) (disch := first | omega | rfl | decide | (simp only [List.length_cons, List.length_nil, List.length_append, LV] <;> omega)) only [go_sem, Nat.reduceAdd, Int.reduceAdd, Int.reduceSub, Int.reduceMul, Bool.not_true, Bool.not_false, plOk, hJ, Bool.true_and]; try rfl)

theorem isInvI_ac {m : Nat} (h0 : 256 ≤ m) (h1 : m < 512) (a : Nat → UInt8) (h : List Blk) : AC Try.prog 48 [.int .i64 m, .agg (Bs 16 a).toArray] h (.bool (detF m a != 0)) h := by
  (refine AC_begin (fun _ _ => Try.call48 _ _) Try.func48 rfl Try.ntmps48 Try.results48 (fun hwf => ?_); simp only [List.length_cons, List.length_nil, Nat.reduceAdd, Nat.reduceSub, List.replicate, List.cons_append, List.nil_append])
  (repeat (first | ((first | (refine And.intro ?_ ?_; focus exact PLA) | ((first | with_reducible apply callB_i | with_reducible apply callK_intro | with_reducible apply callQ_i); (focus (first | assumption | (with_reducible apply redI_ac h0 h1 <;> (first | assumption | rfl | (simp (disch := omega) only [go_sem]; first | done | rfl) | omega | decide | (simp; done))))); (try exact WP_au)) | refine WA_seq (WA_region ?_) | refine WA_region ?_ | refine WA_exit ?_); try simp (maxSteps := 1000000) (disch := first | omega | rfl | decide | (simp only [List.length_cons, List.length_nil, List.length_append, LV] <;> omega)) only [go_sem, Nat.reduceAdd, Int.reduceAdd, Int.reduceSub, Int.reduceMul, Bool.not_true, Bool.not_false]) | refine WA_seq ?_ | refine WA_block ?_ | (refine WA_skip ?_; try simp only [go_sem]) | (refine WA_ret ?_; try simp only [go_sem]) | refine WA_ct rfl ?_ | refine WA_cf rfl ?_))
  ((first | refine ret_nA ?_ | refine ret_sA ?_ | refine ret_fA ?_); simp (maxSteps := 1000000) (disch := first | omega | rfl | decide | (simp only [List.length_cons, List.length_nil, List.length_append, LV] <;> omega)) only [go_sem, Nat.reduceAdd, Int.reduceAdd, Int.reduceSub, Int.reduceMul, Bool.not_true, Bool.not_false]; try rfl)

end Go.Proofs.Ytcfpninklbnifaa
/- The parts of networks and of ciphers. -/
namespace Go.Proofs.Ytcfpninklbnifaa
set_option linter.unusedSimpArgs false
set_option linter.unusedVariables false
set_option maxRecDepth 20000
set_option maxHeartbeats 1000000
open Go.Abs

/-- Whether these are a cipher's parts. -/
def cipB (m : Int) (bx mx pl : Nat → UInt8) (r : Int) : Bool := fieldB m.toNat && (boxOk bx && (detF m.toNat mx != 0 && (plOk pl && inR r 1 20)))
theorem cipB_nat {m : Int} {bx mx pl : Nat → UInt8} {r : Int} (h : cipB m bx mx pl r = true) : ∃ k : Nat, m = k ∧ 256 ≤ k ∧ k < 512 ∧ fieldB k = true ∧ detF k mx ≠ 0 ∧ plOk pl = true ∧ ∃ n : Nat, r = n ∧ 1 ≤ n ∧ n ≤ 20 := by
  unfold cipB at h
  simp only [Bool.and_eq_true] at h
  obtain ⟨hf, hb, hd, hp, hr⟩ := h
  obtain ⟨k, rfl, h2, h0, h1⟩ := fieldB_nat hf
  unfold inR at hr
  simp only [Bool.and_eq_true, decide_eq_true_eq] at hr
  exact ⟨k, rfl, h0, h1, h2, by simpa using hd, hp, r.toNat, by omega, by omega, by omega⟩

end Go.Proofs.Ytcfpninklbnifaa
/- IsCipher. -/
namespace Go.Proofs.Ytcfpninklbnifaa
set_option linter.unusedSimpArgs false
set_option linter.unusedVariables false
set_option maxRecDepth 20000
set_option maxHeartbeats 1000000
open Go.Abs

theorem cipI_ac (m r : Int) (bx mx pl : Nat → UInt8) (h : List Blk) : AC Try.prog 9 [.agg (Ci m bx mx pl r).toArray] h (.bool (cipB m bx mx pl r)) h := by
  have hr := inI_ac r 1 20
  cases hf : fieldB m.toNat
  · (refine AC_begin (fun _ _ => Try.call9 _ _) Try.func9 rfl Try.ntmps9 Try.results9 (fun hwf => ?_); simp only [List.length_cons, List.length_nil, Nat.reduceAdd, Nat.reduceSub, List.replicate, List.cons_append, List.nil_append])
    (repeat (first | ((first | (refine And.intro ?_ ?_; focus exact PLA) | ((first | with_reducible apply callB_i | with_reducible apply callK_intro | with_reducible apply callQ_i); (focus (first | assumption | (with_reducible apply isField_ac <;> (first | assumption | rfl | (simp (disch := omega) only [go_sem]; first | done | rfl) | omega | decide | (simp; done))))); (try exact WP_au)) | refine WA_seq (WA_region ?_) | refine WA_region ?_ | refine WA_exit ?_); try simp (maxSteps := 1000000) (disch := first | omega | rfl | decide | (simp only [List.length_cons, List.length_nil, List.length_append, LV] <;> omega)) only [go_sem, Nat.reduceAdd, Int.reduceAdd, Int.reduceSub, Int.reduceMul, Bool.not_true, Bool.not_false, hf, yieldA_at 3 6, yieldA_at 8 11, yieldA_at 15 18, yieldA_at 20 23]) | refine WA_seq ?_ | refine WA_block ?_ | (refine WA_skip ?_; try simp only [go_sem]) | (refine WA_ret ?_; try simp only [go_sem]) | refine WA_ct rfl ?_ | refine WA_cf rfl ?_))
    ((first | refine ret_nA ?_ | refine ret_sA ?_ | refine ret_fA ?_); simp (maxSteps := 1000000) (disch := first | omega | rfl | decide | (simp only [List.length_cons, List.length_nil, List.length_append, LV] <;> omega)) only [go_sem, Nat.reduceAdd, Int.reduceAdd, Int.reduceSub, Int.reduceMul, Bool.not_true, Bool.not_false, cipB, hf, Bool.false_and]; try rfl)
  · obtain ⟨p, rfl, hp, h0, h1⟩ := fieldB_nat hf
    rw [Int.toNat_natCast] at hf
    cases hb : boxOk bx
    · (refine AC_begin (fun _ _ => Try.call9 _ _) Try.func9 rfl Try.ntmps9 Try.results9 (fun hwf => ?_); simp only [List.length_cons, List.length_nil, Nat.reduceAdd, Nat.reduceSub, List.replicate, List.cons_append, List.nil_append])
      (repeat (first | ((first | (refine And.intro ?_ ?_; focus exact PLA) | ((first | with_reducible apply callB_i | with_reducible apply callK_intro | with_reducible apply callQ_i); (focus (first | assumption | ((first | with_reducible apply isField_ac | with_reducible apply boxI_ac) <;> (first | assumption | rfl | (simp (disch := omega) only [go_sem]; first | done | rfl) | omega | decide | (simp; done))))); (try exact WP_au)) | refine WA_seq (WA_region ?_) | refine WA_region ?_ | refine WA_exit ?_); try simp (maxSteps := 1000000) (disch := first | omega | rfl | decide | (simp only [List.length_cons, List.length_nil, List.length_append, LV] <;> omega)) only [go_sem, Nat.reduceAdd, Int.reduceAdd, Int.reduceSub, Int.reduceMul, Bool.not_true, Bool.not_false, hf, hb, yieldA_at 3 6, yieldA_at 8 11, yieldA_at 15 18, yieldA_at 20 23]) | refine WA_seq ?_ | refine WA_block ?_ | (refine WA_skip ?_; try simp only [go_sem]) | (refine WA_ret ?_; try simp only [go_sem]) | refine WA_ct rfl ?_ | refine WA_cf rfl ?_))
      ((first | refine ret_nA ?_ | refine ret_sA ?_ | refine ret_fA ?_); simp (maxSteps := 1000000) (disch := first | omega | rfl | decide | (simp only [List.length_cons, List.length_nil, List.length_append, LV] <;> omega)) only [go_sem, Nat.reduceAdd, Int.reduceAdd, Int.reduceSub, Int.reduceMul, Bool.not_true, Bool.not_false, cipB, Int.toNat_natCast, hf, hb, Bool.false_and, Bool.and_false]; try rfl)
    · cases hd : detF p mx != 0
      · (refine AC_begin (fun _ _ => Try.call9 _ _) Try.func9 rfl Try.ntmps9 Try.results9 (fun hwf => ?_); simp only [List.length_cons, List.length_nil, Nat.reduceAdd, Nat.reduceSub, List.replicate, List.cons_append, List.nil_append])
        (repeat (first | ((first | (refine And.intro ?_ ?_; focus exact PLA) | ((first | with_reducible apply callB_i | with_reducible apply callK_intro | with_reducible apply callQ_i); (focus (first | assumption | ((first | with_reducible apply isField_ac | with_reducible apply boxI_ac | with_reducible apply isInvI_ac h0 h1) <;> (first | assumption | rfl | (simp (disch := omega) only [go_sem]; first | done | rfl) | omega | decide | (simp; done))))); (try exact WP_au)) | refine WA_seq (WA_region ?_) | refine WA_region ?_ | refine WA_exit ?_); try simp (maxSteps := 1000000) (disch := first | omega | rfl | decide | (simp only [List.length_cons, List.length_nil, List.length_append, LV] <;> omega)) only [go_sem, Nat.reduceAdd, Int.reduceAdd, Int.reduceSub, Int.reduceMul, Bool.not_true, Bool.not_false, hf, hb, hd, yieldA_at 3 6, yieldA_at 8 11, yieldA_at 15 18, yieldA_at 20 23]) | refine WA_seq ?_ | refine WA_block ?_ | (refine WA_skip ?_; try simp only [go_sem]) | (refine WA_ret ?_; try simp only [go_sem]) | refine WA_ct rfl ?_ | refine WA_cf rfl ?_))
        ((first | refine ret_nA ?_ | refine ret_sA ?_ | refine ret_fA ?_); simp (maxSteps := 1000000) (disch := first | omega | rfl | decide | (simp only [List.length_cons, List.length_nil, List.length_append, LV] <;> omega)) only [go_sem, Nat.reduceAdd, Int.reduceAdd, Int.reduceSub, Int.reduceMul, Bool.not_true, Bool.not_false, cipB, Int.toNat_natCast, hf, hb, hd, Bool.false_and, Bool.and_false]; try rfl)
      · cases hi : plOk pl
        · (refine AC_begin (fun _ _ => Try.call9 _ _) Try.func9 rfl Try.ntmps9 Try.results9 (fun hwf => ?_); simp only [List.length_cons, List.length_nil, Nat.reduceAdd, Nat.reduceSub, List.replicate, List.cons_append, List.nil_append])
          (repeat (first | ((first | (refine And.intro ?_ ?_; focus exact PLA) | ((first | with_reducible apply callB_i | with_reducible apply callK_intro | with_reducible apply callQ_i); (focus (first | assumption | ((first | with_reducible apply isField_ac | with_reducible apply boxI_ac | with_reducible apply isInvI_ac h0 h1 | with_reducible apply permI_ac) <;> (first | assumption | rfl | (simp (disch := omega) only [go_sem]; first | done | rfl) | omega | decide | (simp; done))))); (try exact WP_au)) | refine WA_seq (WA_region ?_) | refine WA_region ?_ | refine WA_exit ?_); try simp (maxSteps := 1000000) (disch := first | omega | rfl | decide | (simp only [List.length_cons, List.length_nil, List.length_append, LV] <;> omega)) only [go_sem, Nat.reduceAdd, Int.reduceAdd, Int.reduceSub, Int.reduceMul, Bool.not_true, Bool.not_false, hf, hb, hd, hi, yieldA_at 3 6, yieldA_at 8 11, yieldA_at 15 18, yieldA_at 20 23]) | refine WA_seq ?_ | refine WA_block ?_ | (refine WA_skip ?_; try simp only [go_sem]) | (refine WA_ret ?_; try simp only [go_sem]) | refine WA_ct rfl ?_ | refine WA_cf rfl ?_))
          ((first | refine ret_nA ?_ | refine ret_sA ?_ | refine ret_fA ?_); simp (maxSteps := 1000000) (disch := first | omega | rfl | decide | (simp only [List.length_cons, List.length_nil, List.length_append, LV] <;> omega)) only [go_sem, Nat.reduceAdd, Int.reduceAdd, Int.reduceSub, Int.reduceMul, Bool.not_true, Bool.not_false, cipB, Int.toNat_natCast, hf, hb, hd, hi, Bool.false_and, Bool.and_false]; try rfl)
        · (refine AC_begin (fun _ _ => Try.call9 _ _) Try.func9 rfl Try.ntmps9 Try.results9 (fun hwf => ?_); simp only [List.length_cons, List.length_nil, Nat.reduceAdd, Nat.reduceSub, List.replicate, List.cons_append, List.nil_append])
          (repeat (first | ((first | (refine And.intro ?_ ?_; focus exact PLA) | ((first | with_reducible apply callB_i | with_reducible apply callK_intro | with_reducible apply callQ_i); (focus (first | assumption | ((first | with_reducible apply isField_ac | with_reducible apply boxI_ac | with_reducible apply isInvI_ac h0 h1 | with_reducible apply permI_ac | with_reducible apply hr) <;> (first | assumption | rfl | (simp (disch := omega) only [go_sem]; first | done | rfl) | omega | decide | (simp; done))))); (try exact WP_au)) | refine WA_seq (WA_region ?_) | refine WA_region ?_ | refine WA_exit ?_); try simp (maxSteps := 1000000) (disch := first | omega | rfl | decide | (simp only [List.length_cons, List.length_nil, List.length_append, LV] <;> omega)) only [go_sem, Nat.reduceAdd, Int.reduceAdd, Int.reduceSub, Int.reduceMul, Bool.not_true, Bool.not_false, hf, hb, hd, hi, yieldA_at 3 6, yieldA_at 8 11, yieldA_at 15 18, yieldA_at 20 23]) | refine WA_seq ?_ | refine WA_block ?_ | (refine WA_skip ?_; try simp only [go_sem]) | (refine WA_ret ?_; try simp only [go_sem]) | refine WA_ct rfl ?_ | refine WA_cf rfl ?_))
          ((first | refine ret_nA ?_ | refine ret_sA ?_ | refine ret_fA ?_); simp (maxSteps := 1000000) (disch := first | omega | rfl | decide | (simp only [List.length_cons, List.length_nil, List.length_append, LV] <;> omega)) only [go_sem, Nat.reduceAdd, Int.reduceAdd, Int.reduceSub, Int.reduceMul, Bool.not_true, Bool.not_false, cipB, Int.toNat_natCast, hf, hb, hd, hi, Bool.true_and]; try rfl)

theorem cipS_ac (m r : Int) (bx mx pl : Nat → UInt8) (h : List Blk) : AC Try.prog 44 [.agg (Ci m bx mx pl r).toArray] h (.bool (cipB m bx mx pl r)) h := by
  have hr := inS_ac r 1 20
  cases hf : fieldB m.toNat
  · (refine AC_begin (fun _ _ => Try.call44 _ _) Try.func44 rfl Try.ntmps44 Try.results44 (fun hwf => ?_); simp only [List.length_cons, List.length_nil, Nat.reduceAdd, Nat.reduceSub, List.replicate, List.cons_append, List.nil_append])
    (repeat (first | ((first | (refine And.intro ?_ ?_; focus exact PLA) | ((first | with_reducible apply callB_i | with_reducible apply callK_intro | with_reducible apply callQ_i); (focus (first | assumption | (with_reducible apply fieldS_ac <;> (first | assumption | rfl | (simp (disch := omega) only [go_sem]; first | done | rfl) | omega | decide | (simp; done))))); (try exact WP_au)) | refine WA_seq (WA_region ?_) | refine WA_region ?_ | refine WA_exit ?_); try simp (maxSteps := 1000000) (disch := first | omega | rfl | decide | (simp only [List.length_cons, List.length_nil, List.length_append, LV] <;> omega)) only [go_sem, Nat.reduceAdd, Int.reduceAdd, Int.reduceSub, Int.reduceMul, Bool.not_true, Bool.not_false, hf, yieldA_at 4 9, yieldA_at 10 15, yieldA_at 16 21]) | refine WA_seq ?_ | refine WA_block ?_ | (refine WA_skip ?_; try simp only [go_sem]) | (refine WA_ret ?_; try simp only [go_sem]) | refine WA_ct rfl ?_ | refine WA_cf rfl ?_))
    ((first | refine ret_nA ?_ | refine ret_sA ?_ | refine ret_fA ?_); simp (maxSteps := 1000000) (disch := first | omega | rfl | decide | (simp only [List.length_cons, List.length_nil, List.length_append, LV] <;> omega)) only [go_sem, Nat.reduceAdd, Int.reduceAdd, Int.reduceSub, Int.reduceMul, Bool.not_true, Bool.not_false, cipB, hf, Bool.false_and]; try rfl)
  · obtain ⟨p, rfl, hp, h0, h1⟩ := fieldB_nat hf
    rw [Int.toNat_natCast] at hf
    cases hb : boxOk bx
    · (refine AC_begin (fun _ _ => Try.call44 _ _) Try.func44 rfl Try.ntmps44 Try.results44 (fun hwf => ?_); simp only [List.length_cons, List.length_nil, Nat.reduceAdd, Nat.reduceSub, List.replicate, List.cons_append, List.nil_append])
      (repeat (first | ((first | (refine And.intro ?_ ?_; focus exact PLA) | ((first | with_reducible apply callB_i | with_reducible apply callK_intro | with_reducible apply callQ_i); (focus (first | assumption | ((first | with_reducible apply fieldS_ac | with_reducible apply boxS_ac) <;> (first | assumption | rfl | (simp (disch := omega) only [go_sem]; first | done | rfl) | omega | decide | (simp; done))))); (try exact WP_au)) | refine WA_seq (WA_region ?_) | refine WA_region ?_ | refine WA_exit ?_); try simp (maxSteps := 1000000) (disch := first | omega | rfl | decide | (simp only [List.length_cons, List.length_nil, List.length_append, LV] <;> omega)) only [go_sem, Nat.reduceAdd, Int.reduceAdd, Int.reduceSub, Int.reduceMul, Bool.not_true, Bool.not_false, hf, hb, yieldA_at 4 9, yieldA_at 10 15, yieldA_at 16 21]) | refine WA_seq ?_ | refine WA_block ?_ | (refine WA_skip ?_; try simp only [go_sem]) | (refine WA_ret ?_; try simp only [go_sem]) | refine WA_ct rfl ?_ | refine WA_cf rfl ?_))
      ((first | refine ret_nA ?_ | refine ret_sA ?_ | refine ret_fA ?_); simp (maxSteps := 1000000) (disch := first | omega | rfl | decide | (simp only [List.length_cons, List.length_nil, List.length_append, LV] <;> omega)) only [go_sem, Nat.reduceAdd, Int.reduceAdd, Int.reduceSub, Int.reduceMul, Bool.not_true, Bool.not_false, cipB, Int.toNat_natCast, hf, hb, Bool.false_and, Bool.and_false]; try rfl)
    · cases hi : plOk pl
      · (refine AC_begin (fun _ _ => Try.call44 _ _) Try.func44 rfl Try.ntmps44 Try.results44 (fun hwf => ?_); simp only [List.length_cons, List.length_nil, Nat.reduceAdd, Nat.reduceSub, List.replicate, List.cons_append, List.nil_append])
        (repeat (first | ((first | (refine And.intro ?_ ?_; focus exact PLA) | ((first | with_reducible apply callB_i | with_reducible apply callK_intro | with_reducible apply callQ_i); (focus (first | assumption | ((first | with_reducible apply fieldS_ac | with_reducible apply boxS_ac | with_reducible apply permS_ac) <;> (first | assumption | rfl | (simp (disch := omega) only [go_sem]; first | done | rfl) | omega | decide | (simp; done))))); (try exact WP_au)) | refine WA_seq (WA_region ?_) | refine WA_region ?_ | refine WA_exit ?_); try simp (maxSteps := 1000000) (disch := first | omega | rfl | decide | (simp only [List.length_cons, List.length_nil, List.length_append, LV] <;> omega)) only [go_sem, Nat.reduceAdd, Int.reduceAdd, Int.reduceSub, Int.reduceMul, Bool.not_true, Bool.not_false, hf, hb, hi, yieldA_at 4 9, yieldA_at 10 15, yieldA_at 16 21]) | refine WA_seq ?_ | refine WA_block ?_ | (refine WA_skip ?_; try simp only [go_sem]) | (refine WA_ret ?_; try simp only [go_sem]) | refine WA_ct rfl ?_ | refine WA_cf rfl ?_))
        ((first | refine ret_nA ?_ | refine ret_sA ?_ | refine ret_fA ?_); simp (maxSteps := 1000000) (disch := first | omega | rfl | decide | (simp only [List.length_cons, List.length_nil, List.length_append, LV] <;> omega)) only [go_sem, Nat.reduceAdd, Int.reduceAdd, Int.reduceSub, Int.reduceMul, Bool.not_true, Bool.not_false, cipB, Int.toNat_natCast, hf, hb, hi, Bool.false_and, Bool.and_false]; try rfl)
      · cases hR : inR r 1 20 <;> rw [hR] at hr
        · (refine AC_begin (fun _ _ => Try.call44 _ _) Try.func44 rfl Try.ntmps44 Try.results44 (fun hwf => ?_); simp only [List.length_cons, List.length_nil, Nat.reduceAdd, Nat.reduceSub, List.replicate, List.cons_append, List.nil_append])
          (repeat (first | ((first | (refine And.intro ?_ ?_; focus exact PLA) | ((first | with_reducible apply callB_i | with_reducible apply callK_intro | with_reducible apply callQ_i); (focus (first | assumption | ((first | with_reducible apply fieldS_ac | with_reducible apply boxS_ac | with_reducible apply permS_ac | with_reducible apply hr) <;> (first | assumption | rfl | (simp (disch := omega) only [go_sem]; first | done | rfl) | omega | decide | (simp; done))))); (try exact WP_au)) | refine WA_seq (WA_region ?_) | refine WA_region ?_ | refine WA_exit ?_); try simp (maxSteps := 1000000) (disch := first | omega | rfl | decide | (simp only [List.length_cons, List.length_nil, List.length_append, LV] <;> omega)) only [go_sem, Nat.reduceAdd, Int.reduceAdd, Int.reduceSub, Int.reduceMul, Bool.not_true, Bool.not_false, hf, hb, hi, yieldA_at 4 9, yieldA_at 10 15, yieldA_at 16 21]) | refine WA_seq ?_ | refine WA_block ?_ | (refine WA_skip ?_; try simp only [go_sem]) | (refine WA_ret ?_; try simp only [go_sem]) | refine WA_ct rfl ?_ | refine WA_cf rfl ?_))
          ((first | refine ret_nA ?_ | refine ret_sA ?_ | refine ret_fA ?_); simp (maxSteps := 1000000) (disch := first | omega | rfl | decide | (simp only [List.length_cons, List.length_nil, List.length_append, LV] <;> omega)) only [go_sem, Nat.reduceAdd, Int.reduceAdd, Int.reduceSub, Int.reduceMul, Bool.not_true, Bool.not_false, cipB, Int.toNat_natCast, hf, hb, hi, hR, Bool.true_and, Bool.and_false]; try rfl)
        · (refine AC_begin (fun _ _ => Try.call44 _ _) Try.func44 rfl Try.ntmps44 Try.results44 (fun hwf => ?_); simp only [List.length_cons, List.length_nil, Nat.reduceAdd, Nat.reduceSub, List.replicate, List.cons_append, List.nil_append])
          (repeat (first | ((first | (refine And.intro ?_ ?_; focus exact PLA) | ((first | with_reducible apply callB_i | with_reducible apply callK_intro | with_reducible apply callQ_i); (focus (first | assumption | ((first | with_reducible apply fieldS_ac | with_reducible apply boxS_ac | with_reducible apply permS_ac | with_reducible apply hr | with_reducible apply inverseS_ac h0 h1) <;> (first | assumption | rfl | (simp (disch := omega) only [go_sem]; first | done | rfl) | omega | decide | (simp; done))))); (try exact WP_au)) | refine WA_seq (WA_region ?_) | refine WA_region ?_ | refine WA_exit ?_); try simp (maxSteps := 1000000) (disch := first | omega | rfl | decide | (simp only [List.length_cons, List.length_nil, List.length_append, LV] <;> omega)) only [go_sem, Nat.reduceAdd, Int.reduceAdd, Int.reduceSub, Int.reduceMul, Bool.not_true, Bool.not_false, hf, hb, hi, yieldA_at 4 9, yieldA_at 10 15, yieldA_at 16 21]) | refine WA_seq ?_ | refine WA_block ?_ | (refine WA_skip ?_; try simp only [go_sem]) | (refine WA_ret ?_; try simp only [go_sem]) | refine WA_ct rfl ?_ | refine WA_cf rfl ?_))
          ((first | refine ret_nA ?_ | refine ret_sA ?_ | refine ret_fA ?_); simp (maxSteps := 1000000) (disch := first | omega | rfl | decide | (simp only [List.length_cons, List.length_nil, List.length_append, LV] <;> omega)) only [go_sem, Nat.reduceAdd, Int.reduceAdd, Int.reduceSub, Int.reduceMul, Bool.not_true, Bool.not_false, cipB, Int.toNat_natCast, hf, hb, hi, hR, Bool.true_and, Bool.and_true]; try rfl)

end Go.Proofs.Ytcfpninklbnifaa
