/- A part of the proof of FnCiphers. -/
import Derived.Test.YtcfpninklbnifaaQCQH
import Derived.Test.YtcfpninklbnifaaQCQ0
import Derived.Test.YtcfpninklbnifaaQCQ1
import Derived.Test.YtcfpninklbnifaaQCQ2
import Derived.Test.YtcfpninklbnifaaQCQ4
/- Draws of ciphers. -/
namespace Go.Proofs.Ytcfpninklbnifaa
set_option linter.unusedSimpArgs false
set_option linter.unusedVariables false
set_option maxRecDepth 20000
set_option maxHeartbeats 1000000
open Go.Abs

/-- The matrix that is taken if the drawn one has no inverse. -/
def lowM (z : UInt8) : Nat → UInt8 := fun i => if i % 5 = 0 then 1 else if i = 12 then z else 0
theorem r4_0 (x : Value) : splice (Bs 4 fun _ => 0) 0 [x] = [x, B 0, B 0, B 0] := rfl
theorem r4_1 (a b c d x : Value) : splice [a, b, c, d] 1 [x] = [a, x, c, d] := rfl
theorem r4_2 (a b c d x : Value) : splice [a, b, c, d] 2 [x] = [a, b, x, d] := rfl
theorem r4_3 (a b c d x : Value) : splice [a, b, c, d] 3 [x] = [a, b, c, x] := rfl
theorem m16_0 (a b c d : Value) : splice (Bs 16 fun _ => 0) (0 * 4) [a, b, c, d] = [a, b, c, d, B 0, B 0, B 0, B 0, B 0, B 0, B 0, B 0, B 0, B 0, B 0, B 0] := rfl
theorem m16_1 (e0 e1 e2 e3 e4 e5 e6 e7 e8 e9 e10 e11 e12 e13 e14 e15 a b c d : Value) : splice [e0, e1, e2, e3, e4, e5, e6, e7, e8, e9, e10, e11, e12, e13, e14, e15] 4 [a, b, c, d] = [e0, e1, e2, e3, a, b, c, d, e8, e9, e10, e11, e12, e13, e14, e15] := rfl
theorem m16_2 (e0 e1 e2 e3 e4 e5 e6 e7 e8 e9 e10 e11 e12 e13 e14 e15 a b c d : Value) : splice [e0, e1, e2, e3, e4, e5, e6, e7, e8, e9, e10, e11, e12, e13, e14, e15] (2 * 4) [a, b, c, d] = [e0, e1, e2, e3, e4, e5, e6, e7, a, b, c, d, e12, e13, e14, e15] := rfl
theorem m16_3 (e0 e1 e2 e3 e4 e5 e6 e7 e8 e9 e10 e11 e12 e13 e14 e15 a b c d : Value) : splice [e0, e1, e2, e3, e4, e5, e6, e7, e8, e9, e10, e11, e12, e13, e14, e15] (3 * 4) [a, b, c, d] = [e0, e1, e2, e3, e4, e5, e6, e7, e8, e9, e10, e11, a, b, c, d] := rfl
theorem lowM_is (z : UInt8) : ([B 1, B 0, B 0, B 0, B 0, B 1, B 0, B 0, B 0, B 0, B 1, B 0, B z, B 0, B 0, B 1] : List Value) = Bs 16 (lowM z) := rfl
set_option maxHeartbeats 8000000 in
theorem l04Draw_aft {h : List Blk} {b : Nat} {cv : Value} (s : SrcAt h b cv) :
    ∃ (m : Int) (bx mx pl : Nat → UInt8) (r : Int) (h' : List Blk), (0 ≤ r ∧ r ≤ 1000) ∧ Aft h h' b cv ∧ AC Try.prog 106 [pt b 0] h (.agg (Ci m bx mx pl r).toArray) h' := by
  have hbl := s.lt
  have a0 := s.more [⟨Ci 0 zeroF zeroF zeroF 0, true⟩]
  obtain ⟨x, h1, hx, a1, c1⟩ := next_aft a0.src (N := 20) (by omega) (by omega)
  obtain ⟨v, h2, hv, a2, c2⟩ := pickL_aft a1.src [.int .i64 0, .int .i64 1, .int .i64 2, .int .i64 3, .int .i64 5, .int .i64 9, .int .i64 x] (n := 7) rfl rfl (by omega) (by omega)
  obtain ⟨e, rfl, he⟩ : ∃ e : Nat, v = e ∧ e ≤ 20 := by
    obtain ⟨i, hi, e⟩ := hv
    match i, hi, e with
    | 0, _, e => cases e; exact ⟨0, rfl, by omega⟩
    | 1, _, e => cases e; exact ⟨1, rfl, by omega⟩
    | 2, _, e => cases e; exact ⟨2, rfl, by omega⟩
    | 3, _, e => cases e; exact ⟨3, rfl, by omega⟩
    | 4, _, e => cases e; exact ⟨5, rfl, by omega⟩
    | 5, _, e => cases e; exact ⟨9, rfl, by omega⟩
    | 6, _, e => cases e; exact ⟨x, rfl, by omega⟩
    | n + 7, h, _ => exact absurd h (by omega)
  obtain ⟨r, hr⟩ : ∃ r : Int, r = ((1 + e : Nat) : Int) := ⟨_, rfl⟩
  have a3 := a2.src.more [⟨Ci 285 hBoxF hMixF hPlF r, true⟩]
  obtain ⟨y, h3, hy, a4, c3⟩ := next_aft a3.src (N := 2) (by omega) (by omega)
  have A4 := (((a0.trans a1).trans a2).trans a3).trans a4
  have l2 := a2.src.lt
  have hR2 := (a1.trans a2).keep h.length ⟨Ci 0 zeroF zeroF zeroF 0, true⟩ (by omega) (by simp)
  have hlt := blt hR2
  have hR4 := (a3.trans a4).keep _ _ (by omega) hR2
  have hC4 := a4.keep h2.length ⟨Ci 285 hBoxF hMixF hPlF r, true⟩ (by omega) (by simp)
  have hw1 : IntKind.i64.wrap (1 + (e : Int)) = r := by rw [hr, show (1 + (e : Int)) = ((1 + e : Nat) : Int) by omega]; exact wrap_N (by omega)
  have hrs := hr.symm
  have hr0 : 0 ≤ r ∧ r ≤ 1000 := by omega
  by_cases hy0 : y = 0
  · subst hy0
    have hlen := A4.len
    refine ⟨285, hBoxF, hMixF, hPlF, r, h3.set h.length ⟨Ci 285 hBoxF hMixF hPlF r, true⟩, hr0, A4.set s (Nat.le_refl _) _, ?_⟩
    (refine AC_begin (fun _ _ => Try.call106 _ _) Try.func106 rfl Try.ntmps106 Try.results106 (fun hwf => ?_); simp only [List.length_cons, List.length_nil, Nat.reduceAdd, Nat.reduceSub, List.replicate, List.cons_append, List.nil_append])
    (repeat (first | ((first | (refine And.intro ?_ ?_; focus exact PLA) | ((first | with_reducible apply callB_i | with_reducible apply callK_intro | with_reducible apply callQ_i); (focus (first | assumption | ((first | with_reducible apply c1 | with_reducible apply c2 | with_reducible apply c3 | with_reducible apply houseS_ac) <;> (first | assumption | rfl | (simp (disch := omega) only [go_sem]; first | done | rfl) | omega | decide | (simp; done))))); (try exact WP_au)) | refine WA_seq (WA_region ?_) | refine WA_region ?_ | refine WA_exit ?_); try simp (maxSteps := 1000000) (disch := first | omega | rfl | decide | (simp only [List.length_cons, List.length_nil, List.length_append, Bs_length, Is_length, Vs_length, Bl_length, Il_length] <;> omega)) only [go_sem, Nat.reduceAdd, Int.reduceAdd, Int.reduceSub, Int.reduceMul, Bool.not_true, Bool.not_false, beq_self_eq_true, hw1, hrs, Ci_splice0, Ci_splice1, Ci_splice2, Ci_splice4, Ci_splice_all, hR4, hC4]) | refine WA_seq ?_ | refine WA_block ?_ | (refine WA_skip ?_; try simp only [go_sem]) | (refine WA_ret ?_; try simp only [go_sem]) | refine WA_ct rfl ?_ | refine WA_cf rfl ?_))
    refine ret_full (by first | exact .inr rfl | exact .inl rfl) (by simpa using hlen) ?_
    simp (maxSteps := 1000000) (disch := first | omega | rfl | decide | (simp only [List.length_cons, List.length_nil, List.length_append, Bs_length, Is_length, Vs_length, Bl_length, Il_length] <;> omega)) only [go_sem, Nat.reduceAdd, Int.reduceAdd, Int.reduceSub, Int.reduceMul, Bool.not_true, Bool.not_false, look_set (blt hR4)]
    try rfl
  · have hyb : (y == 0) = false := by simpa using hy0
    have hlh : h.length < h2.length := hlt
    have hbc : h2.length ≠ b := by omega
    obtain ⟨n, h5, hn, a5, c5⟩ := drawFld_aft a4.src
    obtain ⟨g0, g1⟩ := fieldB_lt hn
    have hC5 := a5.keep _ _ hbc hC4
    have hR5 := a5.keep _ _ (by omega) hR4
    have A5 := (A4.trans a5).set s (show h.length ≤ h2.length by omega) ⟨Ci n hBoxF hMixF hPlF r, true⟩
    have hC5' := look_set (x := ⟨Ci n hBoxF hMixF hPlF r, true⟩) (blt hC5)
    have hR5' := set_at (x := ⟨Ci n hBoxF hMixF hPlF r, true⟩) hR5 (show h2.length ≠ h.length by omega)
    obtain ⟨f, h6, a6, c6⟩ := l02Draw_aft A5.src
    have hC6 := a6.keep _ _ hbc hC5'
    have hR6 := a6.keep _ _ (by omega) hR5'
    have A6 := (A5.trans a6).set s (show h.length ≤ h2.length by omega) ⟨Ci n f hMixF hPlF r, true⟩
    have hC6' := look_set (x := ⟨Ci n f hMixF hPlF r, true⟩) (blt hC6)
    have hR6' := set_at (x := ⟨Ci n f hMixF hPlF r, true⟩) hR6 (show h2.length ≠ h.length by omega)
    obtain ⟨q, h7, hq, a7, c7⟩ := next_aft A6.src (N := 4) (by omega) (by omega)
    have A7 := A6.trans a7
    obtain ⟨st, e0, hI, hRt⟩ := seq_ex (S := List Blk × (Nat → UInt8)) (n := q)
      (I := fun _ s => s.1[h2.length]? = some ⟨Ci n f s.2 hPlF r, true⟩ ∧ s.1[h.length]? = some ⟨Ci 0 zeroF zeroF zeroF 0, true⟩ ∧ Aft h s.1 b cv)
      (R := fun _ s t => ∃ (i j z : Nat) (M1 M2 M3 : List Blk), i < 4 ∧ j < 4 ∧ z < 256 ∧ AC Try.prog 53 [pt b 0, .int .i64 ((4 : Nat) : Int)] s.1 (.int .i64 i) M1 ∧ AC Try.prog 53 [pt b 0, .int .i64 ((4 : Nat) : Int)] M1 (.int .i64 j) M2 ∧ AC Try.prog 53 [pt b 0, .int .i64 ((256 : Nat) : Int)] M2 (.int .i64 z) M3 ∧ M3[h2.length]? = some ⟨Ci n f s.2 hPlF r, true⟩ ∧ t = (M3.set h2.length ⟨Ci n f (upd s.2 (i * 4 + j) (UInt8.ofNat z)) hPlF r, true⟩, upd s.2 (i * 4 + j) (UInt8.ofNat z)))
      (h7, hMixF) ⟨a7.keep _ _ hbc hC6', a7.keep _ _ (by omega) hR6', A7⟩ (fun k hk s0 ⟨i1, i2, i3⟩ => by
        obtain ⟨i, M1, hi, r1, d1⟩ := next_aft i3.src (N := 4) (by omega) (by omega)
        obtain ⟨j, M2, hj, r2, d2⟩ := next_aft r1.src (N := 4) (by omega) (by omega)
        obtain ⟨z, M3, hz, r3, d3⟩ := next_aft r2.src (N := 256) (by omega) (by omega)
        have a := (r1.trans r2).trans r3
        have j1 := a.keep _ _ hbc i1
        have j2 := a.keep _ _ (by omega) i2
        exact ⟨_, ⟨look_set (blt j1), set_at j2 (by omega), (i3.trans a).set s (by omega) _⟩, i, j, z, M1, M2, M3, hi, hj, hz, d1, d2, d3, j1, rfl⟩)
    obtain ⟨f1, f2, f3⟩ := hI q (Nat.le_refl _)
    obtain ⟨mq, hmq⟩ : ∃ mq, mq = (st q).2 := ⟨_, rfl⟩
    obtain ⟨Mq, hMq⟩ : ∃ Mq, Mq = (st q).1 := ⟨_, rfl⟩
    rw [← hmq, ← hMq] at f1
    rw [← hMq] at f2 f3
    have hw1' := hw1
    have a8 := f3.src.more [⟨Bs 16 (backF n mq), true⟩]
    have hC8 := look_old f1 [⟨Bs 16 (backF n mq), true⟩]
    have hR8 := look_old f2 [⟨Bs 16 (backF n mq), true⟩]
    cases hdet : (detF n mq != 0)
    · obtain ⟨z, h9, hz, a9, c9⟩ := next_aft a8.src (N := 256) (by omega) (by omega)
      have hC9 := a9.keep _ _ hbc hC8
      have hR9 := a9.keep _ _ (by omega) hR8
      have A9 := ((f3.trans a8).trans a9).set s (show h.length ≤ h2.length by omega) ⟨Ci n f (lowM (UInt8.ofNat z)) hPlF r, true⟩
      have hC9' := look_set (x := ⟨Ci n f (lowM (UInt8.ofNat z)) hPlF r, true⟩) (blt hC9)
      have hR9' := set_at (x := ⟨Ci n f (lowM (UInt8.ofNat z)) hPlF r, true⟩) hR9 (show h2.length ≠ h.length by omega)
      obtain ⟨i, h10, hi, a10, c10⟩ := next_aft A9.src (N := 16) (by omega) (by omega)
      obtain ⟨j, h11, hj, a11, c11⟩ := next_aft a10.src (N := 16) (by omega) (by omega)
      have A11 := (A9.trans a10).trans a11
      have hC11 := (a10.trans a11).keep _ _ hbc hC9'
      have hR11 := (a10.trans a11).keep _ _ (by omega) hR9'
      have hR12 := set_at (x := ⟨Ci n f (lowM (UInt8.ofNat z)) (upd (upd hPlF i (hPlF j)) j (hPlF i)) r, true⟩) hR11 (show h2.length ≠ h.length by omega)
      have hlen := A11.len
      refine ⟨n, f, lowM (UInt8.ofNat z), upd (upd hPlF i (hPlF j)) j (hPlF i), r, (h11.set h2.length ⟨Ci n f (lowM (UInt8.ofNat z)) (upd (upd hPlF i (hPlF j)) j (hPlF i)) r, true⟩).set h.length ⟨Ci n f (lowM (UInt8.ofNat z)) (upd (upd hPlF i (hPlF j)) j (hPlF i)) r, true⟩, hr0, (A11.set s (by omega) _).set s (Nat.le_refl _) _, ?_⟩
      (refine AC_begin (fun _ _ => Try.call106 _ _) Try.func106 rfl Try.ntmps106 Try.results106 (fun hwf => ?_); simp only [List.length_cons, List.length_nil, Nat.reduceAdd, Nat.reduceSub, List.replicate, List.cons_append, List.nil_append])
      (repeat (first | ((first | (refine And.intro ?_ ?_; focus exact PLA) | ((first | with_reducible apply callB_i | with_reducible apply callK_intro | with_reducible apply callQ_i); (focus (first | assumption | ((first | with_reducible apply c1 | with_reducible apply c2 | with_reducible apply c3 | with_reducible apply houseS_ac | with_reducible apply c5 | with_reducible apply c6 | with_reducible apply c7) <;> (first | assumption | rfl | (simp (disch := omega) only [go_sem]; first | done | rfl) | omega | decide | (simp; done))))); (try exact WP_au)) | refine WA_seq (WA_region ?_) | refine WA_region ?_ | refine WA_exit ?_); try simp (maxSteps := 1000000) (disch := first | omega | rfl | decide | (simp only [List.length_cons, List.length_nil, List.length_append, Bs_length, Is_length, Vs_length, Bl_length, Il_length] <;> omega)) only [go_sem, Nat.reduceAdd, Int.reduceAdd, Int.reduceSub, Int.reduceMul, Bool.not_true, Bool.not_false, hyb, hw1, hrs, Ci_splice0, Ci_splice1, Ci_splice2, Ci_splice4, Ci_splice_all, hR4, hC4, hC5, hC6]) | refine WA_seq ?_ | refine WA_block ?_ | (refine WA_skip ?_; try simp only [go_sem]) | (refine WA_ret ?_; try simp only [go_sem]) | refine WA_ct rfl ?_ | refine WA_cf rfl ?_))
      refine WA_forH (fun k => [(4, .int .i64 ((q - k : Nat))), (29, J), (30, J), (31, J), (32, J), (33, J), (34, J), (35, J), (36, J), (37, J), (38, J), (39, J), (40, J), (41, J), (42, J)]) (fun k => (st k).1) (q) ?_ ?_ ?_ <;> (try simp only [patT_cons, patT_nil, patL_cons, patL_nil, list_set_zero, list_set_succ, blk_set_zero, blk_set_succ])
      · have e1 : (st 0).1 = h7 := by rw [e0]
        have l1 := A7.len
        rw [e1]
        (refine Drop_slots (by first | assumption | exact Nat.le_refl _) ?_; focus ((try simp only [JL_same, JL_J, JL_nil, Int.reduceAdd, Nat.sub_sub, Int.natCast_add, Int.natCast_one, Int.natCast_zero, Int.cast_ofNat_Int, Nat.add_zero, Bool.false_eq_true, if_false, if_true]); (try exact JL_refl _)))
      · intro k hk
        obtain ⟨i, j, z, M1, M2, M3, hi, hj, hz, d1, d2, d3, j1, e⟩ := hRt k hk
        have l1 := (hI (k + 1) hk).2.2.len
        rw [e] at l1 ⊢
        (repeat (first | ((first | (refine And.intro ?_ ?_; focus exact PLA) | ((first | with_reducible apply callB_i | with_reducible apply callK_intro | with_reducible apply callQ_i); (focus (first | assumption | ((first | with_reducible apply d1 | with_reducible apply d2 | with_reducible apply d3) <;> (first | assumption | rfl | (simp (disch := omega) only [go_sem]; first | done | rfl) | omega | decide | (simp; done))))); (try exact WP_au)) | refine WA_seq (WA_region ?_) | refine WA_region ?_ | refine WA_exit ?_); try simp (maxSteps := 1000000) (disch := first | omega | rfl | decide | (simp only [List.length_cons, List.length_nil, List.length_append, Bs_length, Is_length, Vs_length, Bl_length, Il_length] <;> omega)) only [go_sem, Nat.reduceAdd, Int.reduceAdd, Int.reduceSub, Int.reduceMul, Bool.not_true, Bool.not_false, j1, decide_eq_true (show 0 < q - k by omega)]) | (refine (WA_rb (id := 9) [1, 3, 5, 10] (SubM.refl _) mixedOk ?_); simp only [List.size_toArray, List.length_cons, List.length_nil]; (repeat (first | ((first | (refine And.intro ?_ ?_; focus exact PLA) | ((first | with_reducible apply callB_i | with_reducible apply callK_intro | with_reducible apply callQ_i); (focus (first | assumption | ((first | with_reducible apply d1 | with_reducible apply d2 | with_reducible apply d3) <;> (first | assumption | rfl | (simp (disch := omega) only [go_sem]; first | done | rfl) | omega | decide | (simp; done))))); (try exact WP_au)) | refine RB_take false [0, 2, 4, 7] 7 (by rfl) (by kernel_rfl) (by decide) (by decide +kernel) ?_ | refine RB_exec 1 _ (by rfl) (by decide +kernel) (by decide +kernel) ?_ | refine RB_take false [8] 5 (by rfl) (by kernel_rfl) (by decide) (by decide +kernel) ?_ | refine RB_exec 3 _ (by rfl) (by decide +kernel) (by decide +kernel) ?_ | refine RB_exec 5 _ (by rfl) (by decide +kernel) (by decide +kernel) ?_ | refine RB_take false [6, 9] 1 (by rfl) (by kernel_rfl) (by decide) (by decide +kernel) ?_ | refine RB_exec 10 _ (by rfl) (by decide +kernel) (by decide +kernel) ?_ | refine RB_done (by decide +kernel) ?_); try simp (maxSteps := 1000000) (disch := first | omega | rfl | decide | (simp only [List.length_cons, List.length_nil, List.length_append, Bs_length, Is_length, Vs_length, Bl_length, Il_length] <;> omega)) only [go_sem, Nat.reduceAdd, Int.reduceAdd, Int.reduceSub, Int.reduceMul, Bool.not_true, Bool.not_false, j1, decide_eq_true (show 0 < q - k by omega)])))) | refine WA_seq ?_ | refine WA_block ?_ | (refine WA_skip ?_; try simp only [go_sem]) | (refine WA_ret ?_; try simp only [go_sem]) | refine WA_ct rfl ?_ | refine WA_cf rfl ?_))
        all_goals (refine Drop_slots (by first | assumption | exact Nat.le_refl _) ?_; focus ((try simp only [JL_same, JL_J, JL_nil, Int.reduceAdd, Nat.sub_sub, Int.natCast_add, Int.natCast_one, Int.natCast_zero, Int.cast_ofNat_Int, Nat.add_zero, Bool.false_eq_true, if_false, if_true]); (try exact JL_refl _)))
      · rw [← hMq]
        (repeat (first | ((first | (refine And.intro ?_ ?_; focus exact PLA) | ((first | with_reducible apply callB_i | with_reducible apply callK_intro | with_reducible apply callQ_i); (focus (first | assumption | ((first | with_reducible apply inverseS_ac g0 g1 | with_reducible apply c9 | with_reducible apply c10 | with_reducible apply c11) <;> (first | assumption | rfl | (simp (disch := omega) only [go_sem]; first | done | rfl) | omega | decide | (simp; done))))); (try exact WP_au)) | refine WA_seq (WA_region ?_) | refine WA_region ?_ | refine WA_exit ?_); try simp (maxSteps := 1000000) (disch := first | omega | rfl | decide | (simp only [List.length_cons, List.length_nil, List.length_append, Bs_length, Is_length, Vs_length, Bl_length, Il_length] <;> omega)) only [go_sem, Nat.reduceAdd, Int.reduceAdd, Int.reduceSub, Int.reduceMul, Bool.not_true, Bool.not_false, Ci_splice2, Ci_splice3, Ci_splice_all, f1, hC8, hdet, r4_0, r4_1, r4_2, r4_3, m16_0, m16_1, m16_2, m16_3, lowM_is, Bool.not_false, Nat.sub_self, hC9, hC11, look_set (blt hC11), List.set_set, hR12]) | refine WA_seq ?_ | refine WA_block ?_ | (refine WA_skip ?_; try simp only [go_sem]) | (refine WA_ret ?_; try simp only [go_sem]) | refine WA_ct rfl ?_ | refine WA_cf rfl ?_))
        refine ret_full (by first | exact .inr rfl | exact .inl rfl) (by simpa using hlen) ?_
        simp (maxSteps := 1000000) (disch := first | omega | rfl | decide | (simp only [List.length_cons, List.length_nil, List.length_append, Bs_length, Is_length, Vs_length, Bl_length, Il_length] <;> omega)) only [go_sem, Nat.reduceAdd, Int.reduceAdd, Int.reduceSub, Int.reduceMul, Bool.not_true, Bool.not_false, look_set (blt hR12)]
        try rfl
    · obtain ⟨i, h10, hi, a10, c10⟩ := next_aft a8.src (N := 16) (by omega) (by omega)
      obtain ⟨j, h11, hj, a11, c11⟩ := next_aft a10.src (N := 16) (by omega) (by omega)
      have A11 := ((f3.trans a8).trans a10).trans a11
      have hC11 := (a10.trans a11).keep _ _ hbc hC8
      have hR11 := (a10.trans a11).keep _ _ (by omega) hR8
      have hR12 := set_at (x := ⟨Ci n f mq (upd (upd hPlF i (hPlF j)) j (hPlF i)) r, true⟩) hR11 (show h2.length ≠ h.length by omega)
      have hlen := A11.len
      refine ⟨n, f, mq, upd (upd hPlF i (hPlF j)) j (hPlF i), r, (h11.set h2.length ⟨Ci n f mq (upd (upd hPlF i (hPlF j)) j (hPlF i)) r, true⟩).set h.length ⟨Ci n f mq (upd (upd hPlF i (hPlF j)) j (hPlF i)) r, true⟩, hr0, (A11.set s (by omega) _).set s (Nat.le_refl _) _, ?_⟩
      (refine AC_begin (fun _ _ => Try.call106 _ _) Try.func106 rfl Try.ntmps106 Try.results106 (fun hwf => ?_); simp only [List.length_cons, List.length_nil, Nat.reduceAdd, Nat.reduceSub, List.replicate, List.cons_append, List.nil_append])
      (repeat (first | ((first | (refine And.intro ?_ ?_; focus exact PLA) | ((first | with_reducible apply callB_i | with_reducible apply callK_intro | with_reducible apply callQ_i); (focus (first | assumption | ((first | with_reducible apply c1 | with_reducible apply c2 | with_reducible apply c3 | with_reducible apply houseS_ac | with_reducible apply c5 | with_reducible apply c6 | with_reducible apply c7) <;> (first | assumption | rfl | (simp (disch := omega) only [go_sem]; first | done | rfl) | omega | decide | (simp; done))))); (try exact WP_au)) | refine WA_seq (WA_region ?_) | refine WA_region ?_ | refine WA_exit ?_); try simp (maxSteps := 1000000) (disch := first | omega | rfl | decide | (simp only [List.length_cons, List.length_nil, List.length_append, Bs_length, Is_length, Vs_length, Bl_length, Il_length] <;> omega)) only [go_sem, Nat.reduceAdd, Int.reduceAdd, Int.reduceSub, Int.reduceMul, Bool.not_true, Bool.not_false, hyb, hw1, hrs, Ci_splice0, Ci_splice1, Ci_splice2, Ci_splice4, Ci_splice_all, hR4, hC4, hC5, hC6]) | refine WA_seq ?_ | refine WA_block ?_ | (refine WA_skip ?_; try simp only [go_sem]) | (refine WA_ret ?_; try simp only [go_sem]) | refine WA_ct rfl ?_ | refine WA_cf rfl ?_))
      refine WA_forH (fun k => [(4, .int .i64 ((q - k : Nat))), (29, J), (30, J), (31, J), (32, J), (33, J), (34, J), (35, J), (36, J), (37, J), (38, J), (39, J), (40, J), (41, J), (42, J)]) (fun k => (st k).1) (q) ?_ ?_ ?_ <;> (try simp only [patT_cons, patT_nil, patL_cons, patL_nil, list_set_zero, list_set_succ, blk_set_zero, blk_set_succ])
      · have e1 : (st 0).1 = h7 := by rw [e0]
        have l1 := A7.len
        rw [e1]
        (refine Drop_slots (by first | assumption | exact Nat.le_refl _) ?_; focus ((try simp only [JL_same, JL_J, JL_nil, Int.reduceAdd, Nat.sub_sub, Int.natCast_add, Int.natCast_one, Int.natCast_zero, Int.cast_ofNat_Int, Nat.add_zero, Bool.false_eq_true, if_false, if_true]); (try exact JL_refl _)))
      · intro k hk
        obtain ⟨i, j, z, M1, M2, M3, hi, hj, hz, d1, d2, d3, j1, e⟩ := hRt k hk
        have l1 := (hI (k + 1) hk).2.2.len
        rw [e] at l1 ⊢
        (repeat (first | ((first | (refine And.intro ?_ ?_; focus exact PLA) | ((first | with_reducible apply callB_i | with_reducible apply callK_intro | with_reducible apply callQ_i); (focus (first | assumption | ((first | with_reducible apply d1 | with_reducible apply d2 | with_reducible apply d3) <;> (first | assumption | rfl | (simp (disch := omega) only [go_sem]; first | done | rfl) | omega | decide | (simp; done))))); (try exact WP_au)) | refine WA_seq (WA_region ?_) | refine WA_region ?_ | refine WA_exit ?_); try simp (maxSteps := 1000000) (disch := first | omega | rfl | decide | (simp only [List.length_cons, List.length_nil, List.length_append, Bs_length, Is_length, Vs_length, Bl_length, Il_length] <;> omega)) only [go_sem, Nat.reduceAdd, Int.reduceAdd, Int.reduceSub, Int.reduceMul, Bool.not_true, Bool.not_false, j1, decide_eq_true (show 0 < q - k by omega)]) | (refine (WA_rb (id := 9) [1, 3, 5, 10] (SubM.refl _) mixedOk ?_); simp only [List.size_toArray, List.length_cons, List.length_nil]; (repeat (first | ((first | (refine And.intro ?_ ?_; focus exact PLA) | ((first | with_reducible apply callB_i | with_reducible apply callK_intro | with_reducible apply callQ_i); (focus (first | assumption | ((first | with_reducible apply d1 | with_reducible apply d2 | with_reducible apply d3) <;> (first | assumption | rfl | (simp (disch := omega) only [go_sem]; first | done | rfl) | omega | decide | (simp; done))))); (try exact WP_au)) | refine RB_take false [0, 2, 4, 7] 7 (by rfl) (by kernel_rfl) (by decide) (by decide +kernel) ?_ | refine RB_exec 1 _ (by rfl) (by decide +kernel) (by decide +kernel) ?_ | refine RB_take false [8] 5 (by rfl) (by kernel_rfl) (by decide) (by decide +kernel) ?_ | refine RB_exec 3 _ (by rfl) (by decide +kernel) (by decide +kernel) ?_ | refine RB_exec 5 _ (by rfl) (by decide +kernel) (by decide +kernel) ?_ | refine RB_take false [6, 9] 1 (by rfl) (by kernel_rfl) (by decide) (by decide +kernel) ?_ | refine RB_exec 10 _ (by rfl) (by decide +kernel) (by decide +kernel) ?_ | refine RB_done (by decide +kernel) ?_); try simp (maxSteps := 1000000) (disch := first | omega | rfl | decide | (simp only [List.length_cons, List.length_nil, List.length_append, Bs_length, Is_length, Vs_length, Bl_length, Il_length] <;> omega)) only [go_sem, Nat.reduceAdd, Int.reduceAdd, Int.reduceSub, Int.reduceMul, Bool.not_true, Bool.not_false, j1, decide_eq_true (show 0 < q - k by omega)])))) | refine WA_seq ?_ | refine WA_block ?_ | (refine WA_skip ?_; try simp only [go_sem]) | (refine WA_ret ?_; try simp only [go_sem]) | refine WA_ct rfl ?_ | refine WA_cf rfl ?_))
        all_goals (refine Drop_slots (by first | assumption | exact Nat.le_refl _) ?_; focus ((try simp only [JL_same, JL_J, JL_nil, Int.reduceAdd, Nat.sub_sub, Int.natCast_add, Int.natCast_one, Int.natCast_zero, Int.cast_ofNat_Int, Nat.add_zero, Bool.false_eq_true, if_false, if_true]); (try exact JL_refl _)))
      · rw [← hMq]
        (repeat (first | ((first | (refine And.intro ?_ ?_; focus exact PLA) | ((first | with_reducible apply callB_i | with_reducible apply callK_intro | with_reducible apply callQ_i); (focus (first | assumption | ((first | with_reducible apply inverseS_ac g0 g1 | with_reducible apply c10 | with_reducible apply c11) <;> (first | assumption | rfl | (simp (disch := omega) only [go_sem]; first | done | rfl) | omega | decide | (simp; done))))); (try exact WP_au)) | refine WA_seq (WA_region ?_) | refine WA_region ?_ | refine WA_exit ?_); try simp (maxSteps := 1000000) (disch := first | omega | rfl | decide | (simp only [List.length_cons, List.length_nil, List.length_append, Bs_length, Is_length, Vs_length, Bl_length, Il_length] <;> omega)) only [go_sem, Nat.reduceAdd, Int.reduceAdd, Int.reduceSub, Int.reduceMul, Bool.not_true, Bool.not_false, Ci_splice2, Ci_splice3, Ci_splice_all, f1, hC8, hdet, Bool.not_true, Nat.sub_self, hC11, look_set (blt hC11), List.set_set, hR12]) | refine WA_seq ?_ | refine WA_block ?_ | (refine WA_skip ?_; try simp only [go_sem]) | (refine WA_ret ?_; try simp only [go_sem]) | refine WA_ct rfl ?_ | refine WA_cf rfl ?_))
        refine ret_full (by first | exact .inr rfl | exact .inl rfl) (by simpa using hlen) ?_
        simp (maxSteps := 1000000) (disch := first | omega | rfl | decide | (simp only [List.length_cons, List.length_nil, List.length_append, Bs_length, Is_length, Vs_length, Bl_length, Il_length] <;> omega)) only [go_sem, Nat.reduceAdd, Int.reduceAdd, Int.reduceSub, Int.reduceMul, Bool.not_true, Bool.not_false, look_set (blt hR12)]
        try rfl

end Go.Proofs.Ytcfpninklbnifaa
/- What the laws of functions share: draws told with memory opaque. -/
namespace Go.Proofs.Ytcfpninklbnifaa
set_option linter.unusedSimpArgs false
set_option linter.unusedVariables false
set_option maxRecDepth 20000
set_option maxHeartbeats 1000000
open Go.Abs

theorem WA_midH {P : Program} {n0 : Nat} {x y : Code} {Q Q' : Exit → AS → Prop} {t : List Value} {H : List Blk} (ps : List (Nat × Value))
    (h : WA P n0 x (Then (fun s' => Drop n0 s' ⟨patT t ps, H⟩) Q') ⟨t, H⟩) (h2 : WA P n0 y Q ⟨patT t ps, H⟩) : WA P n0 x (Then (WA P n0 y Q) Q') ⟨t, H⟩ := WA_mid _ h h2
theorem app_app {h H L : List Blk} (e : ∃ A, H = h ++ A) : ∃ A, H ++ L = h ++ A := by
  obtain ⟨A, rfl⟩ := e
  exact ⟨A ++ L, List.append_assoc ..⟩
theorem app_len {h H : List Blk} (e : ∃ A, H = h ++ A) : h.length ≤ H.length := by
  obtain ⟨A, rfl⟩ := e
  simp
theorem big_ac {h : List Blk} {cv : Value} (c : Cv h cv) : AC Try.prog 5 [cv] h (.bool false) h := by
  cases c with
  | nil =>
    (refine AC_begin (fun _ _ => Try.call5 _ _) Try.func5 rfl Try.ntmps5 Try.results5 (fun hwf => ?_); simp only [List.length_cons, List.length_nil, Nat.reduceAdd, Nat.reduceSub, List.replicate, List.cons_append, List.nil_append])
    (repeat (first | ((first | (refine And.intro ?_ ?_; focus exact PLA) | refine WA_seq (WA_region ?_) | refine WA_region ?_ | refine WA_exit ?_); try simp (maxSteps := 1000000) (disch := first | omega | rfl | decide | (simp only [List.length_cons, List.length_nil, List.length_append, Bs_length, Is_length, Vs_length, Bl_length, Il_length] <;> omega)) only [go_sem, Nat.reduceAdd, Int.reduceAdd, Int.reduceSub, Int.reduceMul, Bool.not_true, Bool.not_false]) | refine WA_seq ?_ | refine WA_block ?_ | (refine WA_skip ?_; try simp only [go_sem]) | (refine WA_ret ?_; try simp only [go_sem]) | refine WA_ct rfl ?_ | refine WA_cf rfl ?_))
    ((first | refine ret_nA ?_ | refine ret_sA ?_ | refine ret_fA ?_); simp (maxSteps := 1000000) (disch := first | omega | rfl | decide | (simp only [List.length_cons, List.length_nil, List.length_append, Bs_length, Is_length, Vs_length, Bl_length, Il_length] <;> omega)) only [go_sem, Nat.reduceAdd, Int.reduceAdd, Int.reduceSub, Int.reduceMul, Bool.not_true, Bool.not_false]; try rfl)
  | @sl bc n f rc hb hn =>
    (refine AC_begin (fun _ _ => Try.call5 _ _) Try.func5 rfl Try.ntmps5 Try.results5 (fun hwf => ?_); simp only [List.length_cons, List.length_nil, Nat.reduceAdd, Nat.reduceSub, List.replicate, List.cons_append, List.nil_append])
    (repeat (first | ((first | (refine And.intro ?_ ?_; focus exact PLA) | refine WA_seq (WA_region ?_) | refine WA_region ?_ | refine WA_exit ?_); try simp (maxSteps := 1000000) (disch := first | omega | rfl | decide | (simp only [List.length_cons, List.length_nil, List.length_append, Bs_length, Is_length, Vs_length, Bl_length, Il_length] <;> omega)) only [go_sem, Nat.reduceAdd, Int.reduceAdd, Int.reduceSub, Int.reduceMul, Bool.not_true, Bool.not_false, show decide (4096 < n) = false from decide_eq_false (by omega)]) | refine WA_seq ?_ | refine WA_block ?_ | (refine WA_skip ?_; try simp only [go_sem]) | (refine WA_ret ?_; try simp only [go_sem]) | refine WA_ct rfl ?_ | refine WA_cf rfl ?_))
    ((first | refine ret_nA ?_ | refine ret_sA ?_ | refine ret_fA ?_); simp (maxSteps := 1000000) (disch := first | omega | rfl | decide | (simp only [List.length_cons, List.length_nil, List.length_append, Bs_length, Is_length, Vs_length, Bl_length, Il_length] <;> omega)) only [go_sem, Nat.reduceAdd, Int.reduceAdd, Int.reduceSub, Int.reduceMul, Bool.not_true, Bool.not_false]; try rfl)
theorem big_long {b n : Nat} (hn : 4096 < n) (hn2 : n ≤ 9223372036854775807) (h : List Blk) : AC Try.prog 5 [sl b 0 n 1] h (.bool true) h := by
  (refine AC_begin (fun _ _ => Try.call5 _ _) Try.func5 rfl Try.ntmps5 Try.results5 (fun hwf => ?_); simp only [List.length_cons, List.length_nil, Nat.reduceAdd, Nat.reduceSub, List.replicate, List.cons_append, List.nil_append])
  (repeat (first | ((first | (refine And.intro ?_ ?_; focus exact PLA) | refine WA_seq (WA_region ?_) | refine WA_region ?_ | refine WA_exit ?_); try simp (maxSteps := 1000000) (disch := first | omega | rfl | decide | (simp only [List.length_cons, List.length_nil, List.length_append, Bs_length, Is_length, Vs_length, Bl_length, Il_length] <;> omega)) only [go_sem, Nat.reduceAdd, Int.reduceAdd, Int.reduceSub, Int.reduceMul, Bool.not_true, Bool.not_false, show decide (4096 < n) = true from decide_eq_true hn]) | refine WA_seq ?_ | refine WA_block ?_ | (refine WA_skip ?_; try simp only [go_sem]) | (refine WA_ret ?_; try simp only [go_sem]) | refine WA_ct rfl ?_ | refine WA_cf rfl ?_))
  ((first | refine ret_nA ?_ | refine ret_sA ?_ | refine ret_fA ?_); simp (maxSteps := 1000000) (disch := first | omega | rfl | decide | (simp only [List.length_cons, List.length_nil, List.length_append, Bs_length, Is_length, Vs_length, Bl_length, Il_length] <;> omega)) only [go_sem, Nat.reduceAdd, Int.reduceAdd, Int.reduceSub, Int.reduceMul, Bool.not_true, Bool.not_false]; try rfl)

end Go.Proofs.Ytcfpninklbnifaa
/- Opaque memory that is longer. -/
namespace Go.Proofs.Ytcfpninklbnifaa
set_option linter.unusedSimpArgs false
set_option linter.unusedVariables false
set_option maxRecDepth 20000
set_option maxHeartbeats 1000000
open Go.Abs

theorem setX {h h3 : List Blk} (e : ∃ L, h3 = h ++ L) {i : Nat} (hi : h.length ≤ i) (x : Blk) : ∃ L, h3.set i x = h ++ L := by
  obtain ⟨L, rfl⟩ := e
  exact app_set' hi x
theorem app_more {h h1 : List Blk} {x : List Blk} (e : ∃ L, h1 = h ++ x ++ L) : ∃ L, h1 = h ++ L := by
  obtain ⟨L, rfl⟩ := e
  exact ⟨_, List.append_assoc ..⟩
theorem cv_app {h H : List Blk} {cv : Value} (c : Cv h cv) (e : ∃ L, H = h ++ L) : Cv H cv := by
  obtain ⟨L, rfl⟩ := e
  exact c.app L
end Go.Proofs.Ytcfpninklbnifaa
/- Draws of ciphers that may be spoiled, draws for the law on ciphers. -/
namespace Go.Proofs.Ytcfpninklbnifaa
set_option linter.unusedSimpArgs false
set_option linter.unusedVariables false
set_option maxRecDepth 20000
set_option maxHeartbeats 1000000
open Go.Abs

theorem pick8_aft {h : List Blk} {b : Nat} {cv : Value} (s : SrcAt h b cv) :
    ∃ (v : UInt8) (h' : List Blk), Aft h h' b cv ∧ AC Try.prog 108 [pt b 0, sl h.length 0 3 1] (h ++ [⟨[B 16, B 1, B 255], true⟩]) (B v) h' := by
  have hbl := s.lt
  have a0 := s.more [⟨[B 16, B 1, B 255], true⟩]
  obtain ⟨x, h1, hx, a1, c1⟩ := next_aft a0.src (N := 3) (by omega) (by omega)
  have hL := a1.keep h.length ⟨[B 16, B 1, B 255], true⟩ (by omega) (by simp)
  obtain ⟨v, hv⟩ : ∃ v, ([B 16, B 1, B 255] : List Value)[x]? = some (B v) := by
    match x, hx with
    | 0, _ => exact ⟨16, rfl⟩
    | 1, _ => exact ⟨1, rfl⟩
    | 2, _ => exact ⟨255, rfl⟩
    | n + 3, h => exact absurd h (by omega)
  have hlen := (a0.trans a1).len
  refine ⟨v, h1, a0.trans a1, ?_⟩
  (refine AC_begin (fun _ _ => Try.call108 _ _) Try.func108 rfl Try.ntmps108 Try.results108 (fun hwf => ?_); simp only [List.length_cons, List.length_nil, Nat.reduceAdd, Nat.reduceSub, List.replicate, List.cons_append, List.nil_append])
  (repeat (first | ((first | (refine And.intro ?_ ?_; focus exact PLA) | ((first | with_reducible apply callB_i | with_reducible apply callK_intro | with_reducible apply callQ_i); (focus (first | assumption | (with_reducible apply c1 <;> (first | assumption | rfl | (simp (disch := omega) only [go_sem]; first | done | rfl) | omega | decide | (simp; done))))); (try exact WP_au)) | refine WA_seq (WA_region ?_) | refine WA_region ?_ | refine WA_exit ?_); try simp (maxSteps := 1000000) (disch := first | omega | rfl | decide | (simp only [List.length_cons, List.length_nil, List.length_append, Bs_length, Is_length, Vs_length, Bl_length, Il_length] <;> omega)) only [go_sem, Nat.reduceAdd, Int.reduceAdd, Int.reduceSub, Int.reduceMul, Bool.not_true, Bool.not_false, hL, hv]) | refine WA_seq ?_ | refine WA_block ?_ | (refine WA_skip ?_; try simp only [go_sem]) | (refine WA_ret ?_; try simp only [go_sem]) | refine WA_ct rfl ?_ | refine WA_cf rfl ?_))
  refine ret_full (by first | exact .inr rfl | exact .inl rfl) (by first | simpa using a1.len | (have := a1.len; simp at this ⊢; omega)) ?_
  simp (maxSteps := 1000000) (disch := first | omega | rfl | decide | (simp only [List.length_cons, List.length_nil, List.length_append, Bs_length, Is_length, Vs_length, Bl_length, Il_length] <;> omega)) only [go_sem, Nat.reduceAdd, Int.reduceAdd, Int.reduceSub, Int.reduceMul, Bool.not_true, Bool.not_false]
  try rfl

/-- The first row is the second. -/
def rowM (f : Nat → UInt8) : Nat → UInt8 := fun i => if i < 4 then f (4 + i) else f i
theorem Ci_row01 (m : Int) (bx mx pl : Nat → UInt8) (r : Int) : splice (Ci m bx mx pl r) 257 (Bs 4 fun i => mx (4 + i)) = Ci m bx (rowM mx) pl r := by
  apply List.ext_getElem?
  intro i
  rw [splice_get (by rw [Ci_length, Bs_length]; omega), Bs_length]
  by_cases h : 257 ≤ i ∧ i < 257 + 4
  · rw [if_pos h, Bs_get (by omega)]
    obtain ⟨j, rfl⟩ : ∃ j, i = 257 + j := ⟨i - 257, by omega⟩
    rw [Ci_get2 _ _ _ _ _ (by omega), Nat.add_sub_cancel_left]
    unfold rowM
    rw [if_pos (by omega)]
  · rw [if_neg h]
    by_cases h2 : 257 ≤ i ∧ i < 273
    · obtain ⟨j, rfl⟩ : ∃ j, i = 257 + j := ⟨i - 257, by omega⟩
      rw [Ci_get2 _ _ _ _ _ (by omega), Ci_get2 _ _ _ _ _ (by omega)]
      unfold rowM
      rw [if_neg (by omega)]
    · by_cases h3 : i < 257
      · by_cases h4 : i = 0
        · subst h4; rw [Ci_get0, Ci_get0]
        · obtain ⟨j, rfl⟩ : ∃ j, i = 1 + j := ⟨i - 1, by omega⟩
          rw [Ci_get1 _ _ _ _ _ (by omega), Ci_get1 _ _ _ _ _ (by omega)]
      · by_cases h5 : i < 289
        · obtain ⟨j, rfl⟩ : ∃ j, i = 273 + j := ⟨i - 273, by omega⟩
          rw [Ci_get3 _ _ _ _ _ (by omega), Ci_get3 _ _ _ _ _ (by omega)]
        · by_cases h6 : i = 289
          · subst h6; rw [Ci_get4, Ci_get4]
          · rw [List.getElem?_eq_none (by rw [Ci_length]; omega), List.getElem?_eq_none (by rw [Ci_length]; omega)]
theorem Ci_row01' (m : Int) (bx mx pl : Nat → UInt8) (r : Int) : splice (Ci m bx mx pl r) (257 + 0 * 4) (Bs 4 fun i => mx (4 + i)) = Ci m bx (rowM mx) pl r := Ci_row01 m bx mx pl r
theorem Ci_l261 (m : Int) (bx mx pl : Nat → UInt8) (r : Int) (q : Bool) : loadRow (some ⟨Ci m bx mx pl r, q⟩) 261 4 = some (.agg (Bs 4 fun i => mx (4 + i)).toArray) := Ci_rowin2 m bx mx pl r (j := 4) (m := 4) (by omega) q
theorem Ci_g2 (m : Int) (bx mx pl : Nat → UInt8) (r : Int) : (Ci m bx mx pl r)[2]? = some (B (bx 1)) := Ci_get1 m bx mx pl r (j := 1) (by omega)
theorem Ci_g273 (m : Int) (bx mx pl : Nat → UInt8) (r : Int) : (Ci m bx mx pl r)[273]? = some (B (pl 0)) := Ci_get3 m bx mx pl r (j := 0) (by omega)
theorem Ci_s1 (m : Int) (bx mx pl : Nat → UInt8) (r : Int) (x : UInt8) : (Ci m bx mx pl r).set 1 (B x) = Ci m (upd bx 0 x) mx pl r  := by
  rw [show (1 : Nat) = 1 + 0 from rfl, Ci_cut1, mid_set (n := 256) (by simp [Bs_length]) (Bs_length ..) (by omega), Bs_set, ← Ci_cut1]
theorem Ci_s273 (m : Int) (bx mx pl : Nat → UInt8) (r : Int) (x : UInt8) : (Ci m bx mx pl r).set 273 (B x) = Ci m bx mx (upd pl 0 x) r  := by
  rw [show (273 : Nat) = 273 + 0 from rfl, Ci_cut3, mid_set (n := 16) (by simp [Bs_length]) (Bs_length ..) (by omega), Bs_set, ← Ci_cut3]
theorem Ci_s274 (m : Int) (bx mx pl : Nat → UInt8) (r : Int) (x : UInt8) : (Ci m bx mx pl r).set 274 (B x) = Ci m bx mx (upd pl 1 x) r  := by
  rw [show (274 : Nat) = 273 + 1 from rfl, Ci_cut3, mid_set (n := 16) (by simp [Bs_length]) (Bs_length ..) (by omega), Bs_set, ← Ci_cut3]
set_option maxHeartbeats 8000000 in
theorem l04Spoil_aft {h : List Blk} {b : Nat} {cv : Value} (s : SrcAt h b cv) :
    ∃ (m : Int) (bx mx pl : Nat → UInt8) (r : Int) (h' : List Blk), (-1 ≤ r ∧ r ≤ 1000) ∧ Aft h h' b cv ∧ AC Try.prog 73 [pt b 0] h (.agg (Ci m bx mx pl r).toArray) h' := by
  have hbl := s.lt
  have a0 := s.more [⟨Ci 0 zeroF zeroF zeroF 0, true⟩]
  obtain ⟨m, bx, mx, pl, r, h1, hr, a1, c1⟩ := l04Draw_aft a0.src
  have hR1 := a1.keep h.length ⟨Ci 0 zeroF zeroF zeroF 0, true⟩ (by omega) (by simp)
  have a2 := a1.src.more [⟨Ci m bx mx pl r, true⟩]
  obtain ⟨x, h2, hx, a3, c2⟩ := next_aft a2.src (N := 24) (by omega) (by omega)
  have hbc : h1.length ≠ b := by have := a1.src.lt; omega
  have hC := a3.keep h1.length ⟨Ci m bx mx pl r, true⟩ hbc (by simp)
  have hR2 := (a2.trans a3).keep _ _ (by omega) hR1
  have A3 := ((a0.trans a1).trans a2).trans a3
  have l1 := blt hR1
  have hrr : -1 ≤ r ∧ r ≤ 1000 := by omega
  by_cases x0 : x = 0
  · subst x0
    obtain ⟨v, h3, hv, a4, c3⟩ := pickL_aft a3.src [.int .i64 256, .int .i64 511, .int .i64 0, .int .i64 512] (n := 4) rfl rfl (by omega) (by omega)
    have A4 := A3.trans a4
    have hC4 := a4.keep _ _ hbc hC
    have hR4 := a4.keep _ _ (by omega) hR2
    have hR5 := set_at (x := ⟨Ci v bx mx pl r, true⟩) hR4 (show h1.length ≠ h.length by omega)
    have hlen := A4.len
    refine ⟨v, bx, mx, pl, r, (h3.set h1.length ⟨Ci v bx mx pl r, true⟩).set h.length ⟨Ci v bx mx pl r, true⟩, hrr, (A4.set s (by omega) _).set s (Nat.le_refl _) _, ?_⟩
    (refine AC_begin (fun _ _ => Try.call73 _ _) Try.func73 rfl Try.ntmps73 Try.results73 (fun hwf => ?_); simp only [List.length_cons, List.length_nil, Nat.reduceAdd, Nat.reduceSub, List.replicate, List.cons_append, List.nil_append])
    (repeat (first | ((first | (refine And.intro ?_ ?_; focus exact PLA) | ((first | with_reducible apply callB_i | with_reducible apply callK_intro | with_reducible apply callQ_i); (focus (first | assumption | ((first | with_reducible apply c1 | with_reducible apply c2 | with_reducible apply c3) <;> (first | assumption | rfl | (simp (disch := omega) only [go_sem]; first | done | rfl) | omega | decide | (simp; done))))); (try exact WP_au)) | refine WA_seq (WA_region ?_) | refine WA_region ?_ | refine WA_exit ?_); try simp (maxSteps := 1000000) (disch := first | omega | rfl | decide | (simp only [List.length_cons, List.length_nil, List.length_append, Bs_length, Is_length, Vs_length, Bl_length, Il_length] <;> omega)) only [go_sem, Nat.reduceAdd, Int.reduceAdd, Int.reduceSub, Int.reduceMul, Bool.not_true, Bool.not_false, Ci_splice_all, Ci_row01', Ci_l261, Ci_g2, Ci_g273, Ci_s1, Ci_s273, Ci_s274, beq_self_eq_true, hC4, look_set (blt hC4), List.set_set, hR5]) | refine WA_seq ?_ | refine WA_block ?_ | (refine WA_skip ?_; try simp only [go_sem]) | (refine WA_ret ?_; try simp only [go_sem]) | refine WA_ct rfl ?_ | refine WA_cf rfl ?_))
    refine ret_full (by first | exact .inr rfl | exact .inl rfl) (by simpa using hlen) ?_
    simp (maxSteps := 1000000) (disch := first | omega | rfl | decide | (simp only [List.length_cons, List.length_nil, List.length_append, Bs_length, Is_length, Vs_length, Bl_length, Il_length] <;> omega)) only [go_sem, Nat.reduceAdd, Int.reduceAdd, Int.reduceSub, Int.reduceMul, Bool.not_true, Bool.not_false, look_set (blt hR5)]
    try rfl
  have hx0 : (x == 0) = false := by simpa using x0
  by_cases x1 : x = 1
  · subst x1
    have A4 := A3
    have hC4 := hC
    have hR4 := hR2
    have hR5 := set_at (x := ⟨Ci m (upd bx 0 (bx 1)) mx pl r, true⟩) hR4 (show h1.length ≠ h.length by omega)
    have hlen := A4.len
    refine ⟨m, (upd bx 0 (bx 1)), mx, pl, r, (h2.set h1.length ⟨Ci m (upd bx 0 (bx 1)) mx pl r, true⟩).set h.length ⟨Ci m (upd bx 0 (bx 1)) mx pl r, true⟩, hrr, (A4.set s (by omega) _).set s (Nat.le_refl _) _, ?_⟩
    (refine AC_begin (fun _ _ => Try.call73 _ _) Try.func73 rfl Try.ntmps73 Try.results73 (fun hwf => ?_); simp only [List.length_cons, List.length_nil, Nat.reduceAdd, Nat.reduceSub, List.replicate, List.cons_append, List.nil_append])
    (repeat (first | ((first | (refine And.intro ?_ ?_; focus exact PLA) | ((first | with_reducible apply callB_i | with_reducible apply callK_intro | with_reducible apply callQ_i); (focus (first | assumption | ((first | with_reducible apply c1 | with_reducible apply c2) <;> (first | assumption | rfl | (simp (disch := omega) only [go_sem]; first | done | rfl) | omega | decide | (simp; done))))); (try exact WP_au)) | refine WA_seq (WA_region ?_) | refine WA_region ?_ | refine WA_exit ?_); try simp (maxSteps := 1000000) (disch := first | omega | rfl | decide | (simp only [List.length_cons, List.length_nil, List.length_append, Bs_length, Is_length, Vs_length, Bl_length, Il_length] <;> omega)) only [go_sem, Nat.reduceAdd, Int.reduceAdd, Int.reduceSub, Int.reduceMul, Bool.not_true, Bool.not_false, Ci_splice_all, Ci_row01', Ci_l261, Ci_g2, Ci_g273, Ci_s1, Ci_s273, Ci_s274, beq_self_eq_true, show ((1 : Nat) == 0) = false from rfl, hC4, look_set (blt hC4), List.set_set, hR5]) | refine WA_seq ?_ | refine WA_block ?_ | (refine WA_skip ?_; try simp only [go_sem]) | (refine WA_ret ?_; try simp only [go_sem]) | refine WA_ct rfl ?_ | refine WA_cf rfl ?_))
    refine ret_full (by first | exact .inr rfl | exact .inl rfl) (by simpa using hlen) ?_
    simp (maxSteps := 1000000) (disch := first | omega | rfl | decide | (simp only [List.length_cons, List.length_nil, List.length_append, Bs_length, Is_length, Vs_length, Bl_length, Il_length] <;> omega)) only [go_sem, Nat.reduceAdd, Int.reduceAdd, Int.reduceSub, Int.reduceMul, Bool.not_true, Bool.not_false, look_set (blt hR5)]
    try rfl
  have hx1 : (x == 1) = false := by simpa using x1
  by_cases x2 : x = 2
  · subst x2
    have A4 := A3
    have hC4 := hC
    have hR4 := hR2
    have hR5 := set_at (x := ⟨Ci m bx (rowM mx) pl r, true⟩) hR4 (show h1.length ≠ h.length by omega)
    have hlen := A4.len
    refine ⟨m, bx, (rowM mx), pl, r, (h2.set h1.length ⟨Ci m bx (rowM mx) pl r, true⟩).set h.length ⟨Ci m bx (rowM mx) pl r, true⟩, hrr, (A4.set s (by omega) _).set s (Nat.le_refl _) _, ?_⟩
    (refine AC_begin (fun _ _ => Try.call73 _ _) Try.func73 rfl Try.ntmps73 Try.results73 (fun hwf => ?_); simp only [List.length_cons, List.length_nil, Nat.reduceAdd, Nat.reduceSub, List.replicate, List.cons_append, List.nil_append])
    (repeat (first | ((first | (refine And.intro ?_ ?_; focus exact PLA) | ((first | with_reducible apply callB_i | with_reducible apply callK_intro | with_reducible apply callQ_i); (focus (first | assumption | ((first | with_reducible apply c1 | with_reducible apply c2) <;> (first | assumption | rfl | (simp (disch := omega) only [go_sem]; first | done | rfl) | omega | decide | (simp; done))))); (try exact WP_au)) | refine WA_seq (WA_region ?_) | refine WA_region ?_ | refine WA_exit ?_); try simp (maxSteps := 1000000) (disch := first | omega | rfl | decide | (simp only [List.length_cons, List.length_nil, List.length_append, Bs_length, Is_length, Vs_length, Bl_length, Il_length] <;> omega)) only [go_sem, Nat.reduceAdd, Int.reduceAdd, Int.reduceSub, Int.reduceMul, Bool.not_true, Bool.not_false, Ci_splice_all, Ci_row01', Ci_l261, Ci_g2, Ci_g273, Ci_s1, Ci_s273, Ci_s274, beq_self_eq_true, show ((2 : Nat) == 0) = false from rfl, show ((2 : Nat) == 1) = false from rfl, hC4, look_set (blt hC4), List.set_set, hR5, Ci_row01]) | refine WA_seq ?_ | refine WA_block ?_ | (refine WA_skip ?_; try simp only [go_sem]) | (refine WA_ret ?_; try simp only [go_sem]) | refine WA_ct rfl ?_ | refine WA_cf rfl ?_))
    refine ret_full (by first | exact .inr rfl | exact .inl rfl) (by simpa using hlen) ?_
    simp (maxSteps := 1000000) (disch := first | omega | rfl | decide | (simp only [List.length_cons, List.length_nil, List.length_append, Bs_length, Is_length, Vs_length, Bl_length, Il_length] <;> omega)) only [go_sem, Nat.reduceAdd, Int.reduceAdd, Int.reduceSub, Int.reduceMul, Bool.not_true, Bool.not_false, look_set (blt hR5)]
    try rfl
  have hx2 : (x == 2) = false := by simpa using x2
  by_cases x3 : x = 3
  · subst x3
    obtain ⟨v, h3, a4, c3⟩ := pick8_aft a3.src
    have A4 := A3.trans a4
    have hC4 := a4.keep _ _ hbc hC
    have hR4 := a4.keep _ _ (by omega) hR2
    have hR5 := set_at (x := ⟨Ci m bx mx (upd (upd pl 0 v) 1 (upd pl 0 v 0)) r, true⟩) hR4 (show h1.length ≠ h.length by omega)
    have hlen := A4.len
    refine ⟨m, bx, mx, (upd (upd pl 0 v) 1 (upd pl 0 v 0)), r, (h3.set h1.length ⟨Ci m bx mx (upd (upd pl 0 v) 1 (upd pl 0 v 0)) r, true⟩).set h.length ⟨Ci m bx mx (upd (upd pl 0 v) 1 (upd pl 0 v 0)) r, true⟩, hrr, (A4.set s (by omega) _).set s (Nat.le_refl _) _, ?_⟩
    (refine AC_begin (fun _ _ => Try.call73 _ _) Try.func73 rfl Try.ntmps73 Try.results73 (fun hwf => ?_); simp only [List.length_cons, List.length_nil, Nat.reduceAdd, Nat.reduceSub, List.replicate, List.cons_append, List.nil_append])
    (repeat (first | ((first | (refine And.intro ?_ ?_; focus exact PLA) | ((first | with_reducible apply callB_i | with_reducible apply callK_intro | with_reducible apply callQ_i); (focus (first | assumption | ((first | with_reducible apply c1 | with_reducible apply c2 | with_reducible apply c3) <;> (first | assumption | rfl | (simp (disch := omega) only [go_sem]; first | done | rfl) | omega | decide | (simp; done))))); (try exact WP_au)) | refine WA_seq (WA_region ?_) | refine WA_region ?_ | refine WA_exit ?_); try simp (maxSteps := 1000000) (disch := first | omega | rfl | decide | (simp only [List.length_cons, List.length_nil, List.length_append, Bs_length, Is_length, Vs_length, Bl_length, Il_length] <;> omega)) only [go_sem, Nat.reduceAdd, Int.reduceAdd, Int.reduceSub, Int.reduceMul, Bool.not_true, Bool.not_false, Ci_splice_all, Ci_row01', Ci_l261, Ci_g2, Ci_g273, Ci_s1, Ci_s273, Ci_s274, beq_self_eq_true, show ((3 : Nat) == 0) = false from rfl, show ((3 : Nat) == 1) = false from rfl, show ((3 : Nat) == 2) = false from rfl, hC4, look_set (blt hC4), List.set_set, hR5]) | refine WA_seq ?_ | refine WA_block ?_ | (refine WA_skip ?_; try simp only [go_sem]) | (refine WA_ret ?_; try simp only [go_sem]) | refine WA_ct rfl ?_ | refine WA_cf rfl ?_))
    refine ret_full (by first | exact .inr rfl | exact .inl rfl) (by simpa using hlen) ?_
    simp (maxSteps := 1000000) (disch := first | omega | rfl | decide | (simp only [List.length_cons, List.length_nil, List.length_append, Bs_length, Is_length, Vs_length, Bl_length, Il_length] <;> omega)) only [go_sem, Nat.reduceAdd, Int.reduceAdd, Int.reduceSub, Int.reduceMul, Bool.not_true, Bool.not_false, look_set (blt hR5)]
    try rfl
  have hx3 : (x == 3) = false := by simpa using x3
  by_cases x4 : x = 4
  · subst x4
    obtain ⟨v, h3, hv, a4, c3⟩ := pickL_aft a3.src [.int .i64 0, .int .i64 21, .int .i64 (-1)] (n := 3) rfl rfl (by omega) (by omega)
    have A4 := A3.trans a4
    have hC4 := a4.keep _ _ hbc hC
    have hR4 := a4.keep _ _ (by omega) hR2
    have hvr : -1 ≤ v ∧ v ≤ 1000 := by
      obtain ⟨i, hi, e⟩ := hv
      match i, hi, e with
      | 0, _, e => cases e; omega
      | 1, _, e => cases e; omega
      | 2, _, e => cases e; omega
      | n + 3, h, _ => exact absurd h (by omega)
    have hR5 := set_at (x := ⟨Ci m bx mx pl v, true⟩) hR4 (show h1.length ≠ h.length by omega)
    have hlen := A4.len
    refine ⟨m, bx, mx, pl, v, (h3.set h1.length ⟨Ci m bx mx pl v, true⟩).set h.length ⟨Ci m bx mx pl v, true⟩, hvr, (A4.set s (by omega) _).set s (Nat.le_refl _) _, ?_⟩
    (refine AC_begin (fun _ _ => Try.call73 _ _) Try.func73 rfl Try.ntmps73 Try.results73 (fun hwf => ?_); simp only [List.length_cons, List.length_nil, Nat.reduceAdd, Nat.reduceSub, List.replicate, List.cons_append, List.nil_append])
    (repeat (first | ((first | (refine And.intro ?_ ?_; focus exact PLA) | ((first | with_reducible apply callB_i | with_reducible apply callK_intro | with_reducible apply callQ_i); (focus (first | assumption | ((first | with_reducible apply c1 | with_reducible apply c2 | with_reducible apply c3) <;> (first | assumption | rfl | (simp (disch := omega) only [go_sem]; first | done | rfl) | omega | decide | (simp; done))))); (try exact WP_au)) | refine WA_seq (WA_region ?_) | refine WA_region ?_ | refine WA_exit ?_); try simp (maxSteps := 1000000) (disch := first | omega | rfl | decide | (simp only [List.length_cons, List.length_nil, List.length_append, Bs_length, Is_length, Vs_length, Bl_length, Il_length] <;> omega)) only [go_sem, Nat.reduceAdd, Int.reduceAdd, Int.reduceSub, Int.reduceMul, Bool.not_true, Bool.not_false, Ci_splice_all, Ci_row01', Ci_l261, Ci_g2, Ci_g273, Ci_s1, Ci_s273, Ci_s274, beq_self_eq_true, show ((4 : Nat) == 0) = false from rfl, show ((4 : Nat) == 1) = false from rfl, show ((4 : Nat) == 2) = false from rfl, show ((4 : Nat) == 3) = false from rfl, hC4, look_set (blt hC4), List.set_set, hR5]) | refine WA_seq ?_ | refine WA_block ?_ | (refine WA_skip ?_; try simp only [go_sem]) | (refine WA_ret ?_; try simp only [go_sem]) | refine WA_ct rfl ?_ | refine WA_cf rfl ?_))
    refine ret_full (by first | exact .inr rfl | exact .inl rfl) (by simpa using hlen) ?_
    simp (maxSteps := 1000000) (disch := first | omega | rfl | decide | (simp only [List.length_cons, List.length_nil, List.length_append, Bs_length, Is_length, Vs_length, Bl_length, Il_length] <;> omega)) only [go_sem, Nat.reduceAdd, Int.reduceAdd, Int.reduceSub, Int.reduceMul, Bool.not_true, Bool.not_false, look_set (blt hR5)]
    try rfl
  have hx4 : (x == 4) = false := by simpa using x4
  have hR5 := set_at (x := ⟨Ci m bx mx pl r, true⟩) hR2 (show h1.length ≠ h.length by omega)
  have hlen := A3.len
  refine ⟨m, bx, mx, pl, r, h2.set h.length ⟨Ci m bx mx pl r, true⟩, hrr, A3.set s (Nat.le_refl _) _, ?_⟩
  (refine AC_begin (fun _ _ => Try.call73 _ _) Try.func73 rfl Try.ntmps73 Try.results73 (fun hwf => ?_); simp only [List.length_cons, List.length_nil, Nat.reduceAdd, Nat.reduceSub, List.replicate, List.cons_append, List.nil_append])
  (repeat (first | ((first | (refine And.intro ?_ ?_; focus exact PLA) | ((first | with_reducible apply callB_i | with_reducible apply callK_intro | with_reducible apply callQ_i); (focus (first | assumption | ((first | with_reducible apply c1 | with_reducible apply c2) <;> (first | assumption | rfl | (simp (disch := omega) only [go_sem]; first | done | rfl) | omega | decide | (simp; done))))); (try exact WP_au)) | refine WA_seq (WA_region ?_) | refine WA_region ?_ | refine WA_exit ?_); try simp (maxSteps := 1000000) (disch := first | omega | rfl | decide | (simp only [List.length_cons, List.length_nil, List.length_append, Bs_length, Is_length, Vs_length, Bl_length, Il_length] <;> omega)) only [go_sem, Nat.reduceAdd, Int.reduceAdd, Int.reduceSub, Int.reduceMul, Bool.not_true, Bool.not_false, Ci_splice_all, hx0, hx1, hx2, hx3, hx4, hC, hR2]) | refine WA_seq ?_ | refine WA_block ?_ | (refine WA_skip ?_; try simp only [go_sem]) | (refine WA_ret ?_; try simp only [go_sem]) | refine WA_ct rfl ?_ | refine WA_cf rfl ?_))
  refine ret_full (by first | exact .inr rfl | exact .inl rfl) (by simpa using hlen) ?_
  simp (maxSteps := 1000000) (disch := first | omega | rfl | decide | (simp only [List.length_cons, List.length_nil, List.length_append, Bs_length, Is_length, Vs_length, Bl_length, Il_length] <;> omega)) only [go_sem, Nat.reduceAdd, Int.reduceAdd, Int.reduceSub, Int.reduceMul, Bool.not_true, Bool.not_false, look_set (blt hR2)]
  try rfl

end Go.Proofs.Ytcfpninklbnifaa
/- Draws for the law on ciphers. -/
namespace Go.Proofs.Ytcfpninklbnifaa
set_option linter.unusedSimpArgs false
set_option linter.unusedVariables false
set_option maxRecDepth 20000
set_option maxHeartbeats 1000000
open Go.Abs

def tup4 (a b c d : Option Value) : Option Value :=
  match a, b, c, d with
  | some a, some b, some c, some d => if (!isTup a && (!isTup b && (!isTup c && !isTup d))) = true then some (.tuple #[a, b, c, d]) else none
  | _, _, _, _ => none
@[go_sem] theorem ares_four {P : Program} {s : AS} (r r' r'' r3 : ResultVar) : aresults P [r, r', r'', r3] s = tup4 (ares1 P s r) (ares1 P s r') (ares1 P s r'') (ares1 P s r3) := by
  unfold aresults tup4
  simp only [mapO]
  cases ares1 P s r with
  | none => rfl
  | some a =>
    cases ares1 P s r' with
    | none => rfl
    | some b =>
      cases ares1 P s r'' with
      | none => rfl
      | some c =>
        cases ares1 P s r3 with
        | none => rfl
        | some d => simp [Option.bind, Option.map]
@[go_sem] theorem tup4_some {a b c d : Value} (ha : isTup a = false) (hb : isTup b = false) (hc : isTup c = false) (hd : isTup d = false) : tup4 (some a) (some b) (some c) (some d) = some (.tuple #[a, b, c, d]) := by
  unfold tup4; simp [ha, hb, hc, hd]
theorem Ci_stC (a0 : Int) (a1 a2 a3 : Nat → UInt8) (a4 : Int) (b0 : Int) (b1 b2 b3 : Nat → UInt8) (b4 : Int) {h : List Blk} {b : Nat} : storeRow h b (some ⟨Ci a0 a1 a2 a3 a4, true⟩) 0 290 (Ci b0 b1 b2 b3 b4) = some (J, h.set b ⟨Ci b0 b1 b2 b3 b4, true⟩) := Ci_store _ _ _ _ _ (Ci_length ..)
theorem three_op {h : List Blk} {cv : Value} (c : Cv h cv) : ∃ (m : Int) (bx mx pl y s : Nat → UInt8) (r : Int) (H : List Blk), (-1 ≤ r ∧ r ≤ 1000) ∧ (∃ A, H = h ++ A) ∧ Cv H cv ∧ AC Try.prog 43 [cv] h (.tuple #[.agg (Ci m bx mx pl r).toArray, .agg (Bs 16 y).toArray, .agg (Bs 16 s).toArray]) H := by
  obtain ⟨h1, s1, e1, c1⟩ := from_aft (c.app [⟨Ci 0 zeroF zeroF zeroF 0, true⟩, ⟨Bs 16 zeroF, true⟩, ⟨Bs 16 zeroF, true⟩])
  have hlA : (h ++ [(⟨Ci 0 zeroF zeroF zeroF 0, true⟩ : Blk), ⟨Bs 16 zeroF, true⟩, ⟨Bs 16 zeroF, true⟩]).length = h.length + 3 := by simp
  rw [hlA] at s1 c1
  have hl1 := s1.lt
  have hR0 : (h1)[h.length]? = some ⟨Ci 0 zeroF zeroF zeroF 0, true⟩ := by obtain ⟨L, rfl⟩ := e1; simp
  have hO0 : (h1)[h.length + 1]? = some ⟨Bs 16 zeroF, true⟩ := by obtain ⟨L, rfl⟩ := e1; simp
  have hP0 : (h1)[h.length + 2]? = some ⟨Bs 16 zeroF, true⟩ := by obtain ⟨L, rfl⟩ := e1; simp
  obtain ⟨m, bx, mx, pl, r, h2, hr, a2, c2⟩ := l04Spoil_aft s1
  obtain ⟨y, h3, a3, c3⟩ := drawBlock_aft a2.src
  obtain ⟨s, h4, a4, c4⟩ := drawBlock_aft a3.src
  have A := (a2.trans a3).trans a4
  have hR3 := A.keep _ _ (by omega) hR0
  have hO3 := A.keep _ _ (by omega) hO0
  have hP3 := A.keep _ _ (by omega) hP0
  have hO4 := set_at (x := ⟨Ci m bx mx pl r, true⟩) hO3 (show h.length ≠ h.length + 1 by omega)
  have hP4 := set_at (x := ⟨Bs 16 y, true⟩) (set_at (x := ⟨Ci m bx mx pl r, true⟩) hP3 (show h.length ≠ h.length + 2 by omega)) (show h.length + 1 ≠ h.length + 2 by omega)
  have hR5 := set_at (x := ⟨Bs 16 s, true⟩) (set_at (x := ⟨Bs 16 y, true⟩) (look_set (x := ⟨Ci m bx mx pl r, true⟩) (blt hR3)) (show h.length + 1 ≠ h.length by omega)) (show h.length + 2 ≠ h.length by omega)
  have hO5 := set_at (x := ⟨Bs 16 s, true⟩) (look_set (x := ⟨Bs 16 y, true⟩) (blt hO4)) (show h.length + 2 ≠ h.length + 1 by omega)
  have hlen : h.length ≤ h4.length := by have := A.len; omega
  have e : ∃ L, ((h4.set h.length ⟨Ci m bx mx pl r, true⟩).set (h.length + 1) ⟨Bs 16 y, true⟩).set (h.length + 2) ⟨Bs 16 s, true⟩ = h ++ L := setX (setX (setX (A.app h (by omega) (app_more e1)) (Nat.le_refl _) _) (by omega) _) (by omega) _
  refine ⟨m, bx, mx, pl, y, s, r, _, hr, e, cv_app c e, ?_⟩
  (refine AC_begin (fun _ _ => Try.call43 _ _) Try.func43 rfl Try.ntmps43 Try.results43 (fun hwf => ?_); simp only [List.length_cons, List.length_nil, Nat.reduceAdd, Nat.reduceSub, List.replicate, List.cons_append, List.nil_append])
  (repeat (first | ((first | (refine And.intro ?_ ?_; focus exact PLA) | ((first | with_reducible apply callB_i | with_reducible apply callK_intro | with_reducible apply callQ_i); (focus (first | assumption | ((first | with_reducible apply c1 | with_reducible apply c2 | with_reducible apply c3 | with_reducible apply c4) <;> (first | assumption | rfl | (simp (disch := omega) only [go_sem]; first | done | rfl) | omega | decide | (simp; done))))); (try exact WP_au)) | refine WA_seq (WA_region ?_) | refine WA_region ?_ | refine WA_exit ?_); try simp (maxSteps := 1000000) (disch := first | omega | rfl | decide | (simp only [List.length_cons, List.length_nil, List.length_append, Bs_length, Is_length, Vs_length, Bl_length, Il_length] <;> omega)) only [go_sem, Nat.reduceAdd, Int.reduceAdd, Int.reduceSub, Int.reduceMul, Bool.not_true, Bool.not_false, Ci_stC, Ci_splice_all, hR3, hO3, hP3, hO4, hP4]) | refine WA_seq ?_ | refine WA_block ?_ | (refine WA_skip ?_; try simp only [go_sem]) | (refine WA_ret ?_; try simp only [go_sem]) | refine WA_ct rfl ?_ | refine WA_cf rfl ?_))
  refine ret_full (by first | exact .inr rfl | exact .inl rfl) (by simpa using hlen) ?_
  simp (maxSteps := 1000000) (disch := first | omega | rfl | decide | (simp only [List.length_cons, List.length_nil, List.length_append, Bs_length, Is_length, Vs_length, Bl_length, Il_length] <;> omega)) only [go_sem, Nat.reduceAdd, Int.reduceAdd, Int.reduceSub, Int.reduceMul, Bool.not_true, Bool.not_false, hR5, hO5, look_set (blt hP4)]
  try rfl

theorem drEnc_op {h : List Blk} {cv : Value} (c : Cv h cv) : ∃ (m : Int) (bx mx pl y s : Nat → UInt8) (r : Int) (H : List Blk), (-1 ≤ r ∧ r ≤ 1000) ∧ (∃ A, H = h ++ A) ∧ Cv H cv ∧ AC Try.prog 6 [cv] h (.tuple #[.agg (Ci m bx mx pl r).toArray, .agg (Bs 16 y).toArray, .agg (Bs 16 s).toArray]) H := by
  obtain ⟨m, bx, mx, pl, y, s, r, h1, hr, e1, v1, c1⟩ := three_op (c.app [⟨Ci 0 zeroF zeroF zeroF 0, true⟩, ⟨Bs 16 zeroF, true⟩, ⟨Bs 16 zeroF, true⟩])
  have k0 : (h1)[h.length]? = some ⟨Ci 0 zeroF zeroF zeroF 0, true⟩ := by obtain ⟨L, rfl⟩ := e1; simp
  have k1 : (h1)[h.length + 1]? = some ⟨Bs 16 zeroF, true⟩ := by obtain ⟨L, rfl⟩ := e1; simp
  have k2 : (h1)[h.length + 2]? = some ⟨Bs 16 zeroF, true⟩ := by obtain ⟨L, rfl⟩ := e1; simp
  have hR3 := look_old k0 [⟨Ci m bx mx pl r, true⟩, ⟨Bs 16 y, true⟩, ⟨Bs 16 s, true⟩]
  have hO3 := look_old k1 [⟨Ci m bx mx pl r, true⟩, ⟨Bs 16 y, true⟩, ⟨Bs 16 s, true⟩]
  have hP3 := look_old k2 [⟨Ci m bx mx pl r, true⟩, ⟨Bs 16 y, true⟩, ⟨Bs 16 s, true⟩]
  have hO4 := set_at (x := ⟨Ci m bx mx pl r, true⟩) hO3 (show h.length ≠ h.length + 1 by omega)
  have hP4 := set_at (x := ⟨Bs 16 y, true⟩) (set_at (x := ⟨Ci m bx mx pl r, true⟩) hP3 (show h.length ≠ h.length + 2 by omega)) (show h.length + 1 ≠ h.length + 2 by omega)
  have hR5 := set_at (x := ⟨Bs 16 s, true⟩) (set_at (x := ⟨Bs 16 y, true⟩) (look_set (x := ⟨Ci m bx mx pl r, true⟩) (blt hR3)) (show h.length + 1 ≠ h.length by omega)) (show h.length + 2 ≠ h.length by omega)
  have hO5 := set_at (x := ⟨Bs 16 s, true⟩) (look_set (x := ⟨Bs 16 y, true⟩) (blt hO4)) (show h.length + 2 ≠ h.length + 1 by omega)
  have l1 := blt k2
  have hlen : h.length ≤ (h1 ++ ([⟨Ci m bx mx pl r, true⟩, ⟨Bs 16 y, true⟩, ⟨Bs 16 s, true⟩] : List Blk)).length := by simp; omega
  have e : ∃ L, (((h1 ++ ([⟨Ci m bx mx pl r, true⟩, ⟨Bs 16 y, true⟩, ⟨Bs 16 s, true⟩] : List Blk)).set h.length ⟨Ci m bx mx pl r, true⟩).set (h.length + 1) ⟨Bs 16 y, true⟩).set (h.length + 2) ⟨Bs 16 s, true⟩ = h ++ L := setX (setX (setX (app_app (app_more e1)) (Nat.le_refl _) _) (by omega) _) (by omega) _
  have kc : (h1 ++ ([⟨Ci m bx mx pl r, true⟩, ⟨Bs 16 y, true⟩, ⟨Bs 16 s, true⟩] : List Blk))[h1.length]? = some ⟨Ci m bx mx pl r, true⟩ := by simp
  have ky : (h1 ++ ([⟨Ci m bx mx pl r, true⟩, ⟨Bs 16 y, true⟩, ⟨Bs 16 s, true⟩] : List Blk))[h1.length + 1]? = some ⟨Bs 16 y, true⟩ := by simp
  have ks : (h1 ++ ([⟨Ci m bx mx pl r, true⟩, ⟨Bs 16 y, true⟩, ⟨Bs 16 s, true⟩] : List Blk))[h1.length + 2]? = some ⟨Bs 16 s, true⟩ := by simp
  have q0 := set_at (x := dead) (set_at (x := dead) kc (show h.length ≠ h1.length by omega)) (show h.length + 1 ≠ h1.length by omega)
  have q1 := set_at (x := dead) (set_at (x := dead) ky (show h.length ≠ h1.length + 1 by omega)) (show h.length + 1 ≠ h1.length + 1 by omega)
  have q2 := set_at (x := dead) (set_at (x := dead) ks (show h.length ≠ h1.length + 2 by omega)) (show h.length + 1 ≠ h1.length + 2 by omega)
  have p0 := set_at (x := dead) (look_set (x := dead) (blt hR3)) (show h.length + 1 ≠ h.length by omega)
  have p1 := look_set (x := dead) (blt (set_at (x := dead) hO3 (show h.length ≠ h.length + 1 by omega)))
  refine ⟨m, bx, mx, pl, y, s, r, _, hr, e, cv_app c e, ?_⟩
  (refine AC_begin (fun _ _ => Try.call6 _ _) Try.func6 rfl Try.ntmps6 Try.results6 (fun hwf => ?_); simp only [List.length_cons, List.length_nil, Nat.reduceAdd, Nat.reduceSub, List.replicate, List.cons_append, List.nil_append])
  (repeat (first | ((first | (refine And.intro ?_ ?_; focus exact PLA) | ((first | with_reducible apply callB_i | with_reducible apply callK_intro | with_reducible apply callQ_i); (focus (first | assumption | (with_reducible apply c1 <;> (first | assumption | rfl | (simp (disch := omega) only [go_sem]; first | done | rfl) | omega | decide | (simp; done))))); (try exact WP_au)) | refine WA_seq (WA_region ?_) | refine WA_region ?_ | refine WA_exit ?_); try simp (maxSteps := 1000000) (disch := first | omega | rfl | decide | (simp only [List.length_cons, List.length_nil, List.length_append, Bs_length, Is_length, Vs_length, Bl_length, Il_length] <;> omega)) only [go_sem, Nat.reduceAdd, Int.reduceAdd, Int.reduceSub, Int.reduceMul, Bool.not_true, Bool.not_false, Ci_stC, Ci_splice_all, hR3, hO3, hP3, hO4, hP4]) | refine WA_seq ?_ | refine WA_block ?_ | (refine WA_skip ?_; try simp only [go_sem]) | (refine WA_ret ?_; try simp only [go_sem]) | refine WA_ct rfl ?_ | refine WA_cf rfl ?_))
  first | refine WA_seq (WA_rb (id := 2) [5] (SubM.set (SubM.set (SubM.refl _) h.length) (h.length + 1)) mixedOk ?_) | refine WA_rb (id := 2) [5] (SubM.set (SubM.set (SubM.refl _) h.length) (h.length + 1)) mixedOk ?_
  simp only [List.size_toArray, List.length_cons, List.length_nil]
  refine RB_take true [0, 1, 2] 3 (by rfl) (by kernel_rfl) (by decide) (by decide +kernel) ?_
  try simp (maxSteps := 1000000) (disch := first | omega | rfl | decide | (simp only [List.length_cons, List.length_nil, List.length_append, Bs_length] <;> omega)) only [go_sem, Nat.reduceAdd, Ci_stC, Ci_splice_all, hR3, hO3, hP3, hO4, hP4, q0, q1, q2, p0, p1]
  refine RB_keep 3 _ (by rfl) (by decide +kernel) (by simp (maxSteps := 1000000) (disch := first | omega | rfl | decide | (simp only [List.length_cons, List.length_nil, List.length_append, Bs_length] <;> omega)) only [go_sem, Nat.reduceAdd, Ci_stC, Ci_splice_all, hR3, hO3, hP3, hO4, hP4, q0, q1, q2, p0, p1]) ?_
  try simp (maxSteps := 1000000) (disch := first | omega | rfl | decide | (simp only [List.length_cons, List.length_nil, List.length_append, Bs_length] <;> omega)) only [go_sem, Nat.reduceAdd, Ci_stC, Ci_splice_all, hR3, hO3, hP3, hO4, hP4, q0, q1, q2, p0, p1]
  refine RB_keep 4 _ (by rfl) (by decide +kernel) (by simp (maxSteps := 1000000) (disch := first | omega | rfl | decide | (simp only [List.length_cons, List.length_nil, List.length_append, Bs_length] <;> omega)) only [go_sem, Nat.reduceAdd, Ci_stC, Ci_splice_all, hR3, hO3, hP3, hO4, hP4, q0, q1, q2, p0, p1]) ?_
  try simp (maxSteps := 1000000) (disch := first | omega | rfl | decide | (simp only [List.length_cons, List.length_nil, List.length_append, Bs_length] <;> omega)) only [go_sem, Nat.reduceAdd, Ci_stC, Ci_splice_all, hR3, hO3, hP3, hO4, hP4, q0, q1, q2, p0, p1]
  refine RB_exec 5 _ (by rfl) (by decide +kernel) (by decide +kernel) ?_
  try simp (maxSteps := 1000000) (disch := first | omega | rfl | decide | (simp only [List.length_cons, List.length_nil, List.length_append, Bs_length] <;> omega)) only [go_sem, Nat.reduceAdd, Ci_stC, Ci_splice_all, hR3, hO3, hP3, hO4, hP4, q0, q1, q2, p0, p1]
  refine RB_done (by decide +kernel) ?_
  try simp (maxSteps := 1000000) (disch := first | omega | rfl | decide | (simp only [List.length_cons, List.length_nil, List.length_append, Bs_length] <;> omega)) only [go_sem, Nat.reduceAdd, Ci_stC, Ci_splice_all, hR3, hO3, hP3, hO4, hP4, q0, q1, q2, p0, p1]
  (repeat (first | ((first | (refine And.intro ?_ ?_; focus exact PLA) | refine WA_seq (WA_region ?_) | refine WA_region ?_ | refine WA_exit ?_); try simp (maxSteps := 1000000) (disch := first | omega | rfl | decide | (simp only [List.length_cons, List.length_nil, List.length_append, Bs_length, Is_length, Vs_length, Bl_length, Il_length] <;> omega)) only [go_sem, Nat.reduceAdd, Int.reduceAdd, Int.reduceSub, Int.reduceMul, Bool.not_true, Bool.not_false]) | refine WA_seq ?_ | refine WA_block ?_ | (refine WA_skip ?_; try simp only [go_sem]) | (refine WA_ret ?_; try simp only [go_sem]) | refine WA_ct rfl ?_ | refine WA_cf rfl ?_))
  refine ret_full (by first | exact .inr rfl | exact .inl rfl) (by simp only [List.length_set, List.length_append, List.length_cons, List.length_nil] at hlen ⊢; omega) ?_
  simp (maxSteps := 1000000) (disch := first | omega | rfl | decide | (simp only [List.length_cons, List.length_nil, List.length_append, Bs_length, Is_length, Vs_length, Bl_length, Il_length] <;> omega)) only [go_sem, Nat.reduceAdd, Int.reduceAdd, Int.reduceSub, Int.reduceMul, Bool.not_true, Bool.not_false, hR5, hO5, look_set (blt hP4)]
  try rfl

theorem drDec_op {h : List Blk} {cv : Value} (c : Cv h cv) : ∃ (m : Int) (bx mx pl y s : Nat → UInt8) (r : Int) (H : List Blk), (-1 ≤ r ∧ r ≤ 1000) ∧ (∃ A, H = h ++ A) ∧ Cv H cv ∧ AC Try.prog 11 [cv] h (.tuple #[.agg (Ci m bx mx pl r).toArray, .agg (Bs 16 y).toArray, .agg (Bs 16 s).toArray]) H := by
  obtain ⟨m, bx, mx, pl, y, s, r, h1, hr, e1, v1, c1⟩ := three_op (c.app [⟨Ci 0 zeroF zeroF zeroF 0, true⟩, ⟨Bs 16 zeroF, true⟩, ⟨Bs 16 zeroF, true⟩])
  have k0 : (h1)[h.length]? = some ⟨Ci 0 zeroF zeroF zeroF 0, true⟩ := by obtain ⟨L, rfl⟩ := e1; simp
  have k1 : (h1)[h.length + 1]? = some ⟨Bs 16 zeroF, true⟩ := by obtain ⟨L, rfl⟩ := e1; simp
  have k2 : (h1)[h.length + 2]? = some ⟨Bs 16 zeroF, true⟩ := by obtain ⟨L, rfl⟩ := e1; simp
  have hR3 := look_old k0 [⟨Ci m bx mx pl r, true⟩, ⟨Bs 16 y, true⟩, ⟨Bs 16 s, true⟩]
  have hO3 := look_old k1 [⟨Ci m bx mx pl r, true⟩, ⟨Bs 16 y, true⟩, ⟨Bs 16 s, true⟩]
  have hP3 := look_old k2 [⟨Ci m bx mx pl r, true⟩, ⟨Bs 16 y, true⟩, ⟨Bs 16 s, true⟩]
  have hO4 := set_at (x := ⟨Ci m bx mx pl r, true⟩) hO3 (show h.length ≠ h.length + 1 by omega)
  have hP4 := set_at (x := ⟨Bs 16 y, true⟩) (set_at (x := ⟨Ci m bx mx pl r, true⟩) hP3 (show h.length ≠ h.length + 2 by omega)) (show h.length + 1 ≠ h.length + 2 by omega)
  have hR5 := set_at (x := ⟨Bs 16 s, true⟩) (set_at (x := ⟨Bs 16 y, true⟩) (look_set (x := ⟨Ci m bx mx pl r, true⟩) (blt hR3)) (show h.length + 1 ≠ h.length by omega)) (show h.length + 2 ≠ h.length by omega)
  have hO5 := set_at (x := ⟨Bs 16 s, true⟩) (look_set (x := ⟨Bs 16 y, true⟩) (blt hO4)) (show h.length + 2 ≠ h.length + 1 by omega)
  have l1 := blt k2
  have hlen : h.length ≤ (h1 ++ ([⟨Ci m bx mx pl r, true⟩, ⟨Bs 16 y, true⟩, ⟨Bs 16 s, true⟩] : List Blk)).length := by simp; omega
  have e : ∃ L, (((h1 ++ ([⟨Ci m bx mx pl r, true⟩, ⟨Bs 16 y, true⟩, ⟨Bs 16 s, true⟩] : List Blk)).set h.length ⟨Ci m bx mx pl r, true⟩).set (h.length + 1) ⟨Bs 16 y, true⟩).set (h.length + 2) ⟨Bs 16 s, true⟩ = h ++ L := setX (setX (setX (app_app (app_more e1)) (Nat.le_refl _) _) (by omega) _) (by omega) _
  have kc : (h1 ++ ([⟨Ci m bx mx pl r, true⟩, ⟨Bs 16 y, true⟩, ⟨Bs 16 s, true⟩] : List Blk))[h1.length]? = some ⟨Ci m bx mx pl r, true⟩ := by simp
  have ky : (h1 ++ ([⟨Ci m bx mx pl r, true⟩, ⟨Bs 16 y, true⟩, ⟨Bs 16 s, true⟩] : List Blk))[h1.length + 1]? = some ⟨Bs 16 y, true⟩ := by simp
  have ks : (h1 ++ ([⟨Ci m bx mx pl r, true⟩, ⟨Bs 16 y, true⟩, ⟨Bs 16 s, true⟩] : List Blk))[h1.length + 2]? = some ⟨Bs 16 s, true⟩ := by simp
  have q0 := set_at (x := dead) (set_at (x := dead) kc (show h.length ≠ h1.length by omega)) (show h.length + 1 ≠ h1.length by omega)
  have q1 := set_at (x := dead) (set_at (x := dead) ky (show h.length ≠ h1.length + 1 by omega)) (show h.length + 1 ≠ h1.length + 1 by omega)
  have q2 := set_at (x := dead) (set_at (x := dead) ks (show h.length ≠ h1.length + 2 by omega)) (show h.length + 1 ≠ h1.length + 2 by omega)
  have p0 := set_at (x := dead) (look_set (x := dead) (blt hR3)) (show h.length + 1 ≠ h.length by omega)
  have p1 := look_set (x := dead) (blt (set_at (x := dead) hO3 (show h.length ≠ h.length + 1 by omega)))
  refine ⟨m, bx, mx, pl, y, s, r, _, hr, e, cv_app c e, ?_⟩
  (refine AC_begin (fun _ _ => Try.call11 _ _) Try.func11 rfl Try.ntmps11 Try.results11 (fun hwf => ?_); simp only [List.length_cons, List.length_nil, Nat.reduceAdd, Nat.reduceSub, List.replicate, List.cons_append, List.nil_append])
  (repeat (first | ((first | (refine And.intro ?_ ?_; focus exact PLA) | ((first | with_reducible apply callB_i | with_reducible apply callK_intro | with_reducible apply callQ_i); (focus (first | assumption | (with_reducible apply c1 <;> (first | assumption | rfl | (simp (disch := omega) only [go_sem]; first | done | rfl) | omega | decide | (simp; done))))); (try exact WP_au)) | refine WA_seq (WA_region ?_) | refine WA_region ?_ | refine WA_exit ?_); try simp (maxSteps := 1000000) (disch := first | omega | rfl | decide | (simp only [List.length_cons, List.length_nil, List.length_append, Bs_length, Is_length, Vs_length, Bl_length, Il_length] <;> omega)) only [go_sem, Nat.reduceAdd, Int.reduceAdd, Int.reduceSub, Int.reduceMul, Bool.not_true, Bool.not_false, Ci_stC, Ci_splice_all, hR3, hO3, hP3, hO4, hP4]) | refine WA_seq ?_ | refine WA_block ?_ | (refine WA_skip ?_; try simp only [go_sem]) | (refine WA_ret ?_; try simp only [go_sem]) | refine WA_ct rfl ?_ | refine WA_cf rfl ?_))
  first | refine WA_seq (WA_rb (id := 2) [5] (SubM.set (SubM.set (SubM.refl _) h.length) (h.length + 1)) mixedOk ?_) | refine WA_rb (id := 2) [5] (SubM.set (SubM.set (SubM.refl _) h.length) (h.length + 1)) mixedOk ?_
  simp only [List.size_toArray, List.length_cons, List.length_nil]
  refine RB_take true [0, 1, 2] 3 (by rfl) (by kernel_rfl) (by decide) (by decide +kernel) ?_
  try simp (maxSteps := 1000000) (disch := first | omega | rfl | decide | (simp only [List.length_cons, List.length_nil, List.length_append, Bs_length] <;> omega)) only [go_sem, Nat.reduceAdd, Ci_stC, Ci_splice_all, hR3, hO3, hP3, hO4, hP4, q0, q1, q2, p0, p1]
  refine RB_keep 3 _ (by rfl) (by decide +kernel) (by simp (maxSteps := 1000000) (disch := first | omega | rfl | decide | (simp only [List.length_cons, List.length_nil, List.length_append, Bs_length] <;> omega)) only [go_sem, Nat.reduceAdd, Ci_stC, Ci_splice_all, hR3, hO3, hP3, hO4, hP4, q0, q1, q2, p0, p1]) ?_
  try simp (maxSteps := 1000000) (disch := first | omega | rfl | decide | (simp only [List.length_cons, List.length_nil, List.length_append, Bs_length] <;> omega)) only [go_sem, Nat.reduceAdd, Ci_stC, Ci_splice_all, hR3, hO3, hP3, hO4, hP4, q0, q1, q2, p0, p1]
  refine RB_keep 4 _ (by rfl) (by decide +kernel) (by simp (maxSteps := 1000000) (disch := first | omega | rfl | decide | (simp only [List.length_cons, List.length_nil, List.length_append, Bs_length] <;> omega)) only [go_sem, Nat.reduceAdd, Ci_stC, Ci_splice_all, hR3, hO3, hP3, hO4, hP4, q0, q1, q2, p0, p1]) ?_
  try simp (maxSteps := 1000000) (disch := first | omega | rfl | decide | (simp only [List.length_cons, List.length_nil, List.length_append, Bs_length] <;> omega)) only [go_sem, Nat.reduceAdd, Ci_stC, Ci_splice_all, hR3, hO3, hP3, hO4, hP4, q0, q1, q2, p0, p1]
  refine RB_exec 5 _ (by rfl) (by decide +kernel) (by decide +kernel) ?_
  try simp (maxSteps := 1000000) (disch := first | omega | rfl | decide | (simp only [List.length_cons, List.length_nil, List.length_append, Bs_length] <;> omega)) only [go_sem, Nat.reduceAdd, Ci_stC, Ci_splice_all, hR3, hO3, hP3, hO4, hP4, q0, q1, q2, p0, p1]
  refine RB_done (by decide +kernel) ?_
  try simp (maxSteps := 1000000) (disch := first | omega | rfl | decide | (simp only [List.length_cons, List.length_nil, List.length_append, Bs_length] <;> omega)) only [go_sem, Nat.reduceAdd, Ci_stC, Ci_splice_all, hR3, hO3, hP3, hO4, hP4, q0, q1, q2, p0, p1]
  (repeat (first | ((first | (refine And.intro ?_ ?_; focus exact PLA) | refine WA_seq (WA_region ?_) | refine WA_region ?_ | refine WA_exit ?_); try simp (maxSteps := 1000000) (disch := first | omega | rfl | decide | (simp only [List.length_cons, List.length_nil, List.length_append, Bs_length, Is_length, Vs_length, Bl_length, Il_length] <;> omega)) only [go_sem, Nat.reduceAdd, Int.reduceAdd, Int.reduceSub, Int.reduceMul, Bool.not_true, Bool.not_false]) | refine WA_seq ?_ | refine WA_block ?_ | (refine WA_skip ?_; try simp only [go_sem]) | (refine WA_ret ?_; try simp only [go_sem]) | refine WA_ct rfl ?_ | refine WA_cf rfl ?_))
  refine ret_full (by first | exact .inr rfl | exact .inl rfl) (by simp only [List.length_set, List.length_append, List.length_cons, List.length_nil] at hlen ⊢; omega) ?_
  simp (maxSteps := 1000000) (disch := first | omega | rfl | decide | (simp only [List.length_cons, List.length_nil, List.length_append, Bs_length, Is_length, Vs_length, Bl_length, Il_length] <;> omega)) only [go_sem, Nat.reduceAdd, Int.reduceAdd, Int.reduceSub, Int.reduceMul, Bool.not_true, Bool.not_false, hR5, hO5, look_set (blt hP4)]
  try rfl

theorem Cd.but {M : List Blk} {b n : Nat} {cv : Value} {f : Nat → UInt8} (c : Cd M b cv n f) : Cd (roBut b M) b cv n f := by
  cases c with
  | nil => exact .nil f
  | sl _ hb hne =>
    refine .sl (rc := false) f ?_ hne
    unfold roBut
    rw [List.getElem?_set_ne hne.symm]
    exact ro_of hb
theorem Cd.unbut {M : List Blk} {b n : Nat} {cv : Value} {f : Nat → UInt8} (c : Cd (roBut b M) b cv n f) : Cd M b cv n f := by
  cases c with
  | nil => exact .nil f
  | @sl _ bc _ rc hb hne =>
    rcases roBut_get hb with ⟨_, k', h1, h2, _⟩ | ⟨h1, _⟩
    · obtain ⟨cs, r⟩ := k'
      simp only at h2
      subst h2
      exact .sl f h1 hne
    · exact absurd h1 hne
theorem next_N {M : List Blk} {b : Nat} {cv : Value} (s : SrcAt M b cv) {N : Nat} (hN : 0 < N) (hN2 : N ≤ 1125899906842624) :
    ∃ (x : Nat) (k k' : Blk) (M' : List Blk), x < N ∧ M[b]? = some k ∧ k.rw = true ∧ M' = M.set b k' ∧ Aft M M' b cv ∧ AC Try.prog 53 [pt b 0, .int .i64 N] (roBut b M) (.int .i64 x) ((roBut b M).set b k') := by
  obtain ⟨k, hb, a, hs, n, f, e, h1, h2, c⟩ := s
  obtain ⟨x, k', hx, ⟨a', hs', n', f', e', h1', h2', c'⟩, hc⟩ := next_ex (roBut_here hb) ⟨a, hs, n, f, e, h1, h2, c.but⟩ hN hN2
  exact ⟨x, k, k', _, hx, hb, by rw [e], rfl, aft_set (blt hb) ⟨a', hs', n', f', e', h1', h2', c'.unbut⟩, hc⟩

set_option maxHeartbeats 16000000 in
theorem drEsh_op {h : List Blk} {cv : Value} (c : Cv h cv) : ∃ (m : Int) (bx mx pl y s : Nat → UInt8) (r n : Int) (H : List Blk), (-1 ≤ r ∧ r ≤ 1000) ∧ (∃ A, H = h ++ A) ∧ Cv H cv ∧ AC Try.prog 14 [cv] h (.tuple #[.agg (Ci m bx mx pl r).toArray, .agg (Bs 16 y).toArray, .agg (Bs 16 s).toArray, .int .i64 n]) H := by
  obtain ⟨h1, s1, e1, c1⟩ := from_aft (c.app [⟨Ci 0 zeroF zeroF zeroF 0, true⟩, ⟨Bs 16 zeroF, true⟩, ⟨Bs 16 zeroF, true⟩])
  have hlA : (h ++ [(⟨Ci 0 zeroF zeroF zeroF 0, true⟩ : Blk), ⟨Bs 16 zeroF, true⟩, ⟨Bs 16 zeroF, true⟩]).length = h.length + 3 := by simp
  rw [hlA] at s1 c1
  have hl1 := s1.lt
  have hR0 : (h1)[h.length]? = some ⟨Ci 0 zeroF zeroF zeroF 0, true⟩ := by obtain ⟨L, rfl⟩ := e1; simp
  have hO0 : (h1)[h.length + 1]? = some ⟨Bs 16 zeroF, true⟩ := by obtain ⟨L, rfl⟩ := e1; simp
  have hP0 : (h1)[h.length + 2]? = some ⟨Bs 16 zeroF, true⟩ := by obtain ⟨L, rfl⟩ := e1; simp
  have v1 : Cv h1 cv := cv_app c (app_more e1)
  obtain ⟨m, bx, mx, pl, y, s, r, h2, hr, e2, v2, c2⟩ := three_op v1
  have a2 : Aft h1 h2 (h.length + 3) cv := by obtain ⟨L, rfl⟩ := e2; exact s1.more L
  have a3 := a2.src.more [⟨Ci m bx mx pl r, true⟩, ⟨Bs 16 y, true⟩, ⟨Bs 16 s, true⟩]
  have l2 := a2.src.lt
  obtain ⟨N, hN⟩ : ∃ N : Nat, (if r + 1 > 1 then r + 1 else 1) = (N : Int) ∧ 0 < N ∧ N ≤ 1001 := by
    refine ⟨(if r + 1 > 1 then r + 1 else 1).toNat, ?_, ?_, ?_⟩ <;> split <;> omega
  obtain ⟨hN1, hN2, hN3⟩ := hN
  have hN1' : (if 1 < r + 1 then r + 1 else 1) = (N : Int) := hN1
  obtain ⟨x, k4, k4', h4, hx, hb4, hr4, g4, a4, c4⟩ := next_N a3.src (N := N) hN2 (by omega)
  obtain ⟨z, k5, k5', h5, hz, hb5, hr5, g5, a5, c5⟩ := next_N a4.src (N := 24) (by omega) (by omega)
  have A := ((a2.trans a3).trans a4).trans a5
  have w1 : IntKind.i64.wrap (r + 1) = r + 1 := wrap_i64 (by omega) (by omega)
  have w2 : IntKind.i64.wrap ((x : Int) - ((z / 23 : Nat) : Int)) = (x : Int) - ((z / 23 : Nat) : Int) := wrap_i64 (by omega) (by omega)
  have kc : (h2 ++ ([⟨Ci m bx mx pl r, true⟩, ⟨Bs 16 y, true⟩, ⟨Bs 16 s, true⟩] : List Blk))[h2.length]? = some ⟨Ci m bx mx pl r, true⟩ := by simp
  have ky : (h2 ++ ([⟨Ci m bx mx pl r, true⟩, ⟨Bs 16 y, true⟩, ⟨Bs 16 s, true⟩] : List Blk))[h2.length + 1]? = some ⟨Bs 16 y, true⟩ := by simp
  have ks : (h2 ++ ([⟨Ci m bx mx pl r, true⟩, ⟨Bs 16 y, true⟩, ⟨Bs 16 s, true⟩] : List Blk))[h2.length + 2]? = some ⟨Bs 16 s, true⟩ := by simp
  have q0 := set_at (x := dead) (set_at (x := dead) (set_at (x := dead) kc (show h.length ≠ h2.length by omega)) (show h.length + 1 ≠ h2.length by omega)) (show h.length + 3 ≠ h2.length by omega)
  have q1 := set_at (x := dead) (set_at (x := dead) (set_at (x := dead) ky (show h.length ≠ h2.length + 1 by omega)) (show h.length + 1 ≠ h2.length + 1 by omega)) (show h.length + 3 ≠ h2.length + 1 by omega)
  have q2 := set_at (x := dead) (set_at (x := dead) (set_at (x := dead) ks (show h.length ≠ h2.length + 2 by omega)) (show h.length + 1 ≠ h2.length + 2 by omega)) (show h.length + 3 ≠ h2.length + 2 by omega)
  have hl2 : h1.length ≤ h2.length := a2.len
  have lM : (h2 ++ ([⟨Ci m bx mx pl r, true⟩, ⟨Bs 16 y, true⟩, ⟨Bs 16 s, true⟩] : List Blk)).length = h2.length + 3 := by simp
  have hR3 := A.keep _ _ (by omega) hR0
  have hO3 := A.keep _ _ (by omega) hO0
  have hP3 := A.keep _ _ (by omega) hP0
  have p0 : ((((h2 ++ ([⟨Ci m bx mx pl r, true⟩, ⟨Bs 16 y, true⟩, ⟨Bs 16 s, true⟩] : List Blk)).set h.length dead).set (h.length + 1) dead).set (h.length + 3) dead)[h.length]? = some dead := set_at (set_at (look_set (by omega)) (by omega)) (by omega)
  have p1 : ((((h2 ++ ([⟨Ci m bx mx pl r, true⟩, ⟨Bs 16 y, true⟩, ⟨Bs 16 s, true⟩] : List Blk)).set h.length dead).set (h.length + 1) dead).set (h.length + 3) dead)[h.length + 1]? = some dead := set_at (look_set (by simp only [List.length_set]; omega)) (by omega)
  have p3 : ((((h2 ++ ([⟨Ci m bx mx pl r, true⟩, ⟨Bs 16 y, true⟩, ⟨Bs 16 s, true⟩] : List Blk)).set h.length dead).set (h.length + 1) dead).set (h.length + 3) dead)[h.length + 3]? = some dead := look_set (by simp only [List.length_set]; omega)
  have hO4 := set_at (x := ⟨Ci m bx mx pl r, true⟩) hO3 (show h.length ≠ h.length + 1 by omega)
  have hP4 := set_at (x := ⟨Bs 16 y, true⟩) (set_at (x := ⟨Ci m bx mx pl r, true⟩) hP3 (show h.length ≠ h.length + 2 by omega)) (show h.length + 1 ≠ h.length + 2 by omega)
  have hR5 := set_at (x := ⟨Bs 16 s, true⟩) (set_at (x := ⟨Bs 16 y, true⟩) (look_set (x := ⟨Ci m bx mx pl r, true⟩) (blt hR3)) (show h.length + 1 ≠ h.length by omega)) (show h.length + 2 ≠ h.length by omega)
  have hO5 := set_at (x := ⟨Bs 16 s, true⟩) (look_set (x := ⟨Bs 16 y, true⟩) (blt hO4)) (show h.length + 2 ≠ h.length + 1 by omega)
  have hlen : h.length ≤ h5.length := by have := A.len; omega
  have e : ∃ L, ((h5.set h.length ⟨Ci m bx mx pl r, true⟩).set (h.length + 1) ⟨Bs 16 y, true⟩).set (h.length + 2) ⟨Bs 16 s, true⟩ = h ++ L := setX (setX (setX (A.app h (by omega) (app_more e1)) (Nat.le_refl _) _) (by omega) _) (by omega) _
  refine ⟨m, bx, mx, pl, y, s, r, (x : Int) - ((z / 23 : Nat) : Int), _, hr, e, cv_app c e, ?_⟩
  (refine AC_begin (fun _ _ => Try.call14 _ _) Try.func14 rfl Try.ntmps14 Try.results14 (fun hwf => ?_); simp only [List.length_cons, List.length_nil, Nat.reduceAdd, Nat.reduceSub, List.replicate, List.cons_append, List.nil_append])
  (repeat (first | ((first | (refine And.intro ?_ ?_; focus exact PLA) | ((first | with_reducible apply callB_i | with_reducible apply callK_intro | with_reducible apply callQ_i); (focus (first | assumption | ((first | with_reducible apply c1 | with_reducible apply c2) <;> (first | assumption | rfl | (simp (disch := omega) only [go_sem]; first | done | rfl) | omega | decide | (simp; done))))); (try exact WP_au)) | refine WA_seq (WA_region ?_) | refine WA_region ?_ | refine WA_exit ?_); try simp (maxSteps := 1000000) (disch := first | omega | rfl | decide | (simp only [List.length_cons, List.length_nil, List.length_append, Bs_length, Is_length, Vs_length, Bl_length, Il_length] <;> omega)) only [go_sem, Nat.reduceAdd, Int.reduceAdd, Int.reduceSub, Int.reduceMul, Bool.not_true, Bool.not_false, Ci_stC, Ci_splice_all]) | refine WA_seq ?_ | refine WA_block ?_ | (refine WA_skip ?_; try simp only [go_sem]) | (refine WA_ret ?_; try simp only [go_sem]) | refine WA_ct rfl ?_ | refine WA_cf rfl ?_))
  first | refine WA_seq (WA_rb (id := 3) [15] (SubM.set (SubM.set (SubM.set (SubM.refl _) h.length) (h.length + 1)) (h.length + 3)) mixedOk ?_) | refine WA_rb (id := 3) [15] (SubM.set (SubM.set (SubM.set (SubM.refl _) h.length) (h.length + 1)) (h.length + 3)) mixedOk ?_
  simp only [List.size_toArray, List.length_cons, List.length_nil]
  refine RB_take false [3, 4, 9] 14 (by rfl) (by kernel_rfl) (by decide) (by decide +kernel) ?_
  try simp (maxSteps := 1000000) (disch := first | omega | rfl | decide | (simp only [List.length_cons, List.length_nil, List.length_append, Bs_length] <;> omega)) only [go_sem, Nat.reduceAdd, Ci_stC, Ci_splice_all, w1, w2, hN1, hN1', hR3, hO3, hP3, hO4, hP4, q0, q1, q2, p0, p1]
  refine RB_take true [0, 1, 2, 5] 10 (by rfl) (by kernel_rfl) (by decide) (by decide +kernel) ?_
  try simp (maxSteps := 1000000) (disch := first | omega | rfl | decide | (simp only [List.length_cons, List.length_nil, List.length_append, Bs_length] <;> omega)) only [go_sem, Nat.reduceAdd, Ci_stC, Ci_splice_all, w1, w2, hN1, hN1', hR3, hO3, hP3, hO4, hP4, q0, q1, q2, p0, p1]
  refine RB_take false [6, 7] 8 (by rfl) (by kernel_rfl) (by decide) (by decide +kernel) ?_
  try simp (maxSteps := 1000000) (disch := first | omega | rfl | decide | (simp only [List.length_cons, List.length_nil, List.length_append, Bs_length] <;> omega)) only [go_sem, Nat.reduceAdd, Ci_stC, Ci_splice_all, w1, w2, hN1, hN1', hR3, hO3, hP3, hO4, hP4, q0, q1, q2, p0, p1]
  refine RB_keepN (h.length + 3) 8 7 (by rfl) (by decide +kernel) (by rw [p3]; exact rfl) ?_
  try simp (maxSteps := 1000000) (disch := first | omega | rfl | decide | (simp only [List.length_cons, List.length_nil, List.length_append, Bs_length] <;> omega)) only [go_sem, Nat.reduceAdd, Ci_stC, Ci_splice_all, w1, w2, hN1, hN1', hR3, hO3, hP3, hO4, hP4, q0, q1, q2, p0, p1]
  refine callN_i hb4 hr4 c4 ?_
  rw [← g4]
  try simp (maxSteps := 1000000) (disch := first | omega | rfl | decide | (simp only [List.length_cons, List.length_nil, List.length_append, Bs_length] <;> omega)) only [go_sem, Nat.reduceAdd, Ci_stC, Ci_splice_all, w1, w2, hN1, hN1', hR3, hO3, hP3, hO4, hP4, q0, q1, q2, p0, p1]
  refine RB_keepN (h.length + 3) 10 6 (by rfl) (by decide +kernel) (by rw [p3]; exact rfl) ?_
  try simp (maxSteps := 1000000) (disch := first | omega | rfl | decide | (simp only [List.length_cons, List.length_nil, List.length_append, Bs_length] <;> omega)) only [go_sem, Nat.reduceAdd, Ci_stC, Ci_splice_all, w1, w2, hN1, hN1', hR3, hO3, hP3, hO4, hP4, q0, q1, q2, p0, p1]
  refine callN_i hb5 hr5 c5 ?_
  rw [← g5]
  try simp (maxSteps := 1000000) (disch := first | omega | rfl | decide | (simp only [List.length_cons, List.length_nil, List.length_append, Bs_length] <;> omega)) only [go_sem, Nat.reduceAdd, Ci_stC, Ci_splice_all, w1, w2, hN1, hN1', hR3, hO3, hP3, hO4, hP4, q0, q1, q2, p0, p1]
  refine RB_take false [11, 12] 4 (by rfl) (by kernel_rfl) (by decide) (by decide +kernel) ?_
  try simp (maxSteps := 1000000) (disch := first | omega | rfl | decide | (simp only [List.length_cons, List.length_nil, List.length_append, Bs_length] <;> omega)) only [go_sem, Nat.reduceAdd, Ci_stC, Ci_splice_all, w1, w2, hN1, hN1', hR3, hO3, hP3, hO4, hP4, q0, q1, q2, p0, p1]
  refine RB_keep 13 _ (by rfl) (by decide +kernel) (by simp (maxSteps := 1000000) (disch := first | omega | rfl | decide | (simp only [List.length_cons, List.length_nil, List.length_append, Bs_length] <;> omega)) only [go_sem, Nat.reduceAdd, Ci_stC, Ci_splice_all, w1, w2, hN1, hN1', hR3, hO3, hP3, hO4, hP4, q0, q1, q2, p0, p1]) ?_
  try simp (maxSteps := 1000000) (disch := first | omega | rfl | decide | (simp only [List.length_cons, List.length_nil, List.length_append, Bs_length] <;> omega)) only [go_sem, Nat.reduceAdd, Ci_stC, Ci_splice_all, w1, w2, hN1, hN1', hR3, hO3, hP3, hO4, hP4, q0, q1, q2, p0, p1]
  refine RB_keep 14 _ (by rfl) (by decide +kernel) (by simp (maxSteps := 1000000) (disch := first | omega | rfl | decide | (simp only [List.length_cons, List.length_nil, List.length_append, Bs_length] <;> omega)) only [go_sem, Nat.reduceAdd, Ci_stC, Ci_splice_all, w1, w2, hN1, hN1', hR3, hO3, hP3, hO4, hP4, q0, q1, q2, p0, p1]) ?_
  try simp (maxSteps := 1000000) (disch := first | omega | rfl | decide | (simp only [List.length_cons, List.length_nil, List.length_append, Bs_length] <;> omega)) only [go_sem, Nat.reduceAdd, Ci_stC, Ci_splice_all, w1, w2, hN1, hN1', hR3, hO3, hP3, hO4, hP4, q0, q1, q2, p0, p1]
  refine RB_exec 15 _ (by rfl) (by decide +kernel) (by decide +kernel) ?_
  try simp (maxSteps := 1000000) (disch := first | omega | rfl | decide | (simp only [List.length_cons, List.length_nil, List.length_append, Bs_length] <;> omega)) only [go_sem, Nat.reduceAdd, Ci_stC, Ci_splice_all, w1, w2, hN1, hN1', hR3, hO3, hP3, hO4, hP4, q0, q1, q2, p0, p1]
  refine RB_take false [16] 0 (by rfl) (by kernel_rfl) (by decide) (by decide +kernel) ?_
  try simp (maxSteps := 1000000) (disch := first | omega | rfl | decide | (simp only [List.length_cons, List.length_nil, List.length_append, Bs_length] <;> omega)) only [go_sem, Nat.reduceAdd, Ci_stC, Ci_splice_all, w1, w2, hN1, hN1', hR3, hO3, hP3, hO4, hP4, q0, q1, q2, p0, p1]
  refine RB_done (by decide +kernel) ?_
  try simp (maxSteps := 1000000) (disch := first | omega | rfl | decide | (simp only [List.length_cons, List.length_nil, List.length_append, Bs_length] <;> omega)) only [go_sem, Nat.reduceAdd, Ci_stC, Ci_splice_all, w1, w2, hN1, hN1', hR3, hO3, hP3, hO4, hP4, q0, q1, q2, p0, p1]
  (repeat (first | ((first | (refine And.intro ?_ ?_; focus exact PLA) | refine WA_seq (WA_region ?_) | refine WA_region ?_ | refine WA_exit ?_); try simp (maxSteps := 1000000) (disch := first | omega | rfl | decide | (simp only [List.length_cons, List.length_nil, List.length_append, Bs_length, Is_length, Vs_length, Bl_length, Il_length] <;> omega)) only [go_sem, Nat.reduceAdd, Int.reduceAdd, Int.reduceSub, Int.reduceMul, Bool.not_true, Bool.not_false]) | refine WA_seq ?_ | refine WA_block ?_ | (refine WA_skip ?_; try simp only [go_sem]) | (refine WA_ret ?_; try simp only [go_sem]) | refine WA_ct rfl ?_ | refine WA_cf rfl ?_))
  refine ret_full (by first | exact .inr rfl | exact .inl rfl) (by simp only [List.length_set]; omega) ?_
  simp (maxSteps := 1000000) (disch := first | omega | rfl | decide | (simp only [List.length_cons, List.length_nil, List.length_append, Bs_length, Is_length, Vs_length, Bl_length, Il_length] <;> omega)) only [go_sem, Nat.reduceAdd, Int.reduceAdd, Int.reduceSub, Int.reduceMul, Bool.not_true, Bool.not_false, hR5, hO5, look_set (blt hP4)]
  try rfl

theorem drDsh_op {h : List Blk} {cv : Value} (c : Cv h cv) : ∃ (m : Int) (bx mx pl y s : Nat → UInt8) (r n : Int) (H : List Blk), (-1 ≤ r ∧ r ≤ 1000) ∧ (∃ A, H = h ++ A) ∧ Cv H cv ∧ AC Try.prog 17 [cv] h (.tuple #[.agg (Ci m bx mx pl r).toArray, .agg (Bs 16 y).toArray, .agg (Bs 16 s).toArray, .int .i64 n]) H := by
  obtain ⟨m, bx, mx, pl, y, s, r, n, h1, hr, e1, v1, c1⟩ := drEsh_op (c.app [⟨Ci 0 zeroF zeroF zeroF 0, true⟩, ⟨Bs 16 zeroF, true⟩, ⟨Bs 16 zeroF, true⟩])
  have k0 : (h1)[h.length]? = some ⟨Ci 0 zeroF zeroF zeroF 0, true⟩ := by obtain ⟨L, rfl⟩ := e1; simp
  have k1 : (h1)[h.length + 1]? = some ⟨Bs 16 zeroF, true⟩ := by obtain ⟨L, rfl⟩ := e1; simp
  have k2 : (h1)[h.length + 2]? = some ⟨Bs 16 zeroF, true⟩ := by obtain ⟨L, rfl⟩ := e1; simp
  have hR3 := look_old k0 [⟨Ci m bx mx pl r, true⟩, ⟨Bs 16 y, true⟩, ⟨Bs 16 s, true⟩]
  have hO3 := look_old k1 [⟨Ci m bx mx pl r, true⟩, ⟨Bs 16 y, true⟩, ⟨Bs 16 s, true⟩]
  have hP3 := look_old k2 [⟨Ci m bx mx pl r, true⟩, ⟨Bs 16 y, true⟩, ⟨Bs 16 s, true⟩]
  have hO4 := set_at (x := ⟨Ci m bx mx pl r, true⟩) hO3 (show h.length ≠ h.length + 1 by omega)
  have hP4 := set_at (x := ⟨Bs 16 y, true⟩) (set_at (x := ⟨Ci m bx mx pl r, true⟩) hP3 (show h.length ≠ h.length + 2 by omega)) (show h.length + 1 ≠ h.length + 2 by omega)
  have hR5 := set_at (x := ⟨Bs 16 s, true⟩) (set_at (x := ⟨Bs 16 y, true⟩) (look_set (x := ⟨Ci m bx mx pl r, true⟩) (blt hR3)) (show h.length + 1 ≠ h.length by omega)) (show h.length + 2 ≠ h.length by omega)
  have hO5 := set_at (x := ⟨Bs 16 s, true⟩) (look_set (x := ⟨Bs 16 y, true⟩) (blt hO4)) (show h.length + 2 ≠ h.length + 1 by omega)
  have l1 := blt k2
  have hlen : h.length ≤ (h1 ++ ([⟨Ci m bx mx pl r, true⟩, ⟨Bs 16 y, true⟩, ⟨Bs 16 s, true⟩] : List Blk)).length := by simp; omega
  have e : ∃ L, (((h1 ++ ([⟨Ci m bx mx pl r, true⟩, ⟨Bs 16 y, true⟩, ⟨Bs 16 s, true⟩] : List Blk)).set h.length ⟨Ci m bx mx pl r, true⟩).set (h.length + 1) ⟨Bs 16 y, true⟩).set (h.length + 2) ⟨Bs 16 s, true⟩ = h ++ L := setX (setX (setX (app_app (app_more e1)) (Nat.le_refl _) _) (by omega) _) (by omega) _
  have kc : (h1 ++ ([⟨Ci m bx mx pl r, true⟩, ⟨Bs 16 y, true⟩, ⟨Bs 16 s, true⟩] : List Blk))[h1.length]? = some ⟨Ci m bx mx pl r, true⟩ := by simp
  have ky : (h1 ++ ([⟨Ci m bx mx pl r, true⟩, ⟨Bs 16 y, true⟩, ⟨Bs 16 s, true⟩] : List Blk))[h1.length + 1]? = some ⟨Bs 16 y, true⟩ := by simp
  have ks : (h1 ++ ([⟨Ci m bx mx pl r, true⟩, ⟨Bs 16 y, true⟩, ⟨Bs 16 s, true⟩] : List Blk))[h1.length + 2]? = some ⟨Bs 16 s, true⟩ := by simp
  have q0 := set_at (x := dead) (set_at (x := dead) kc (show h.length ≠ h1.length by omega)) (show h.length + 1 ≠ h1.length by omega)
  have q1 := set_at (x := dead) (set_at (x := dead) ky (show h.length ≠ h1.length + 1 by omega)) (show h.length + 1 ≠ h1.length + 1 by omega)
  have q2 := set_at (x := dead) (set_at (x := dead) ks (show h.length ≠ h1.length + 2 by omega)) (show h.length + 1 ≠ h1.length + 2 by omega)
  have p0 := set_at (x := dead) (look_set (x := dead) (blt hR3)) (show h.length + 1 ≠ h.length by omega)
  have p1 := look_set (x := dead) (blt (set_at (x := dead) hO3 (show h.length ≠ h.length + 1 by omega)))
  refine ⟨m, bx, mx, pl, y, s, r, n, _, hr, e, cv_app c e, ?_⟩
  (refine AC_begin (fun _ _ => Try.call17 _ _) Try.func17 rfl Try.ntmps17 Try.results17 (fun hwf => ?_); simp only [List.length_cons, List.length_nil, Nat.reduceAdd, Nat.reduceSub, List.replicate, List.cons_append, List.nil_append])
  (repeat (first | ((first | (refine And.intro ?_ ?_; focus exact PLA) | ((first | with_reducible apply callB_i | with_reducible apply callK_intro | with_reducible apply callQ_i); (focus (first | assumption | (with_reducible apply c1 <;> (first | assumption | rfl | (simp (disch := omega) only [go_sem]; first | done | rfl) | omega | decide | (simp; done))))); (try exact WP_au)) | refine WA_seq (WA_region ?_) | refine WA_region ?_ | refine WA_exit ?_); try simp (maxSteps := 1000000) (disch := first | omega | rfl | decide | (simp only [List.length_cons, List.length_nil, List.length_append, Bs_length, Is_length, Vs_length, Bl_length, Il_length] <;> omega)) only [go_sem, Nat.reduceAdd, Int.reduceAdd, Int.reduceSub, Int.reduceMul, Bool.not_true, Bool.not_false, Ci_stC, Ci_splice_all, hR3, hO3, hP3, hO4, hP4]) | refine WA_seq ?_ | refine WA_block ?_ | (refine WA_skip ?_; try simp only [go_sem]) | (refine WA_ret ?_; try simp only [go_sem]) | refine WA_ct rfl ?_ | refine WA_cf rfl ?_))
  first | refine WA_seq (WA_rb (id := 2) [6] (SubM.set (SubM.set (SubM.refl _) h.length) (h.length + 1)) mixedOk ?_) | refine WA_rb (id := 2) [6] (SubM.set (SubM.set (SubM.refl _) h.length) (h.length + 1)) mixedOk ?_
  simp only [List.size_toArray, List.length_cons, List.length_nil]
  refine RB_take false [3] 7 (by rfl) (by kernel_rfl) (by decide) (by decide +kernel) ?_
  try simp (maxSteps := 1000000) (disch := first | omega | rfl | decide | (simp only [List.length_cons, List.length_nil, List.length_append, Bs_length] <;> omega)) only [go_sem, Nat.reduceAdd, Ci_stC, Ci_splice_all, hR3, hO3, hP3, hO4, hP4, q0, q1, q2, p0, p1]
  refine RB_take true [0, 1, 2] 4 (by rfl) (by kernel_rfl) (by decide) (by decide +kernel) ?_
  try simp (maxSteps := 1000000) (disch := first | omega | rfl | decide | (simp only [List.length_cons, List.length_nil, List.length_append, Bs_length] <;> omega)) only [go_sem, Nat.reduceAdd, Ci_stC, Ci_splice_all, hR3, hO3, hP3, hO4, hP4, q0, q1, q2, p0, p1]
  refine RB_keep 4 _ (by rfl) (by decide +kernel) (by simp (maxSteps := 1000000) (disch := first | omega | rfl | decide | (simp only [List.length_cons, List.length_nil, List.length_append, Bs_length] <;> omega)) only [go_sem, Nat.reduceAdd, Ci_stC, Ci_splice_all, hR3, hO3, hP3, hO4, hP4, q0, q1, q2, p0, p1]) ?_
  try simp (maxSteps := 1000000) (disch := first | omega | rfl | decide | (simp only [List.length_cons, List.length_nil, List.length_append, Bs_length] <;> omega)) only [go_sem, Nat.reduceAdd, Ci_stC, Ci_splice_all, hR3, hO3, hP3, hO4, hP4, q0, q1, q2, p0, p1]
  refine RB_keep 5 _ (by rfl) (by decide +kernel) (by simp (maxSteps := 1000000) (disch := first | omega | rfl | decide | (simp only [List.length_cons, List.length_nil, List.length_append, Bs_length] <;> omega)) only [go_sem, Nat.reduceAdd, Ci_stC, Ci_splice_all, hR3, hO3, hP3, hO4, hP4, q0, q1, q2, p0, p1]) ?_
  try simp (maxSteps := 1000000) (disch := first | omega | rfl | decide | (simp only [List.length_cons, List.length_nil, List.length_append, Bs_length] <;> omega)) only [go_sem, Nat.reduceAdd, Ci_stC, Ci_splice_all, hR3, hO3, hP3, hO4, hP4, q0, q1, q2, p0, p1]
  refine RB_exec 6 _ (by rfl) (by decide +kernel) (by decide +kernel) ?_
  try simp (maxSteps := 1000000) (disch := first | omega | rfl | decide | (simp only [List.length_cons, List.length_nil, List.length_append, Bs_length] <;> omega)) only [go_sem, Nat.reduceAdd, Ci_stC, Ci_splice_all, hR3, hO3, hP3, hO4, hP4, q0, q1, q2, p0, p1]
  refine RB_take false [7] 0 (by rfl) (by kernel_rfl) (by decide) (by decide +kernel) ?_
  try simp (maxSteps := 1000000) (disch := first | omega | rfl | decide | (simp only [List.length_cons, List.length_nil, List.length_append, Bs_length] <;> omega)) only [go_sem, Nat.reduceAdd, Ci_stC, Ci_splice_all, hR3, hO3, hP3, hO4, hP4, q0, q1, q2, p0, p1]
  refine RB_done (by decide +kernel) ?_
  try simp (maxSteps := 1000000) (disch := first | omega | rfl | decide | (simp only [List.length_cons, List.length_nil, List.length_append, Bs_length] <;> omega)) only [go_sem, Nat.reduceAdd, Ci_stC, Ci_splice_all, hR3, hO3, hP3, hO4, hP4, q0, q1, q2, p0, p1]
  (repeat (first | ((first | (refine And.intro ?_ ?_; focus exact PLA) | refine WA_seq (WA_region ?_) | refine WA_region ?_ | refine WA_exit ?_); try simp (maxSteps := 1000000) (disch := first | omega | rfl | decide | (simp only [List.length_cons, List.length_nil, List.length_append, Bs_length, Is_length, Vs_length, Bl_length, Il_length] <;> omega)) only [go_sem, Nat.reduceAdd, Int.reduceAdd, Int.reduceSub, Int.reduceMul, Bool.not_true, Bool.not_false]) | refine WA_seq ?_ | refine WA_block ?_ | (refine WA_skip ?_; try simp only [go_sem]) | (refine WA_ret ?_; try simp only [go_sem]) | refine WA_ct rfl ?_ | refine WA_cf rfl ?_))
  refine ret_full (by first | exact .inr rfl | exact .inl rfl) (by simp only [List.length_set, List.length_append, List.length_cons, List.length_nil] at hlen ⊢; omega) ?_
  simp (maxSteps := 1000000) (disch := first | omega | rfl | decide | (simp only [List.length_cons, List.length_nil, List.length_append, Bs_length, Is_length, Vs_length, Bl_length, Il_length] <;> omega)) only [go_sem, Nat.reduceAdd, Int.reduceAdd, Int.reduceSub, Int.reduceMul, Bool.not_true, Bool.not_false, hR5, hO5, look_set (blt hP4)]
  try rfl

theorem drHou_op {h : List Blk} {cv : Value} (c : Cv h cv) : ∃ (n : Int) (H : List Blk), (-1 ≤ n ∧ n ≤ 21) ∧ (∃ A, H = h ++ A) ∧ Cv H cv ∧ AC Try.prog 20 [cv] h (.int .i64 n) H := by
  obtain ⟨h1, s1, e1, c1⟩ := from_aft c
  obtain ⟨x, h2, hx, a2, c2⟩ := next_aft s1 (N := 23) (by omega) (by omega)
  have e := a2.app h (Nat.le_refl _) e1
  have w : IntKind.i64.wrap ((x : Int) - 1) = (x : Int) - 1 := wrap_i64 (by omega) (by omega)
  have hlen : h.length ≤ h2.length := by obtain ⟨L, rfl⟩ := e; simp
  refine ⟨(x : Int) - 1, h2, by omega, e, cv_app c e, ?_⟩
  (refine AC_begin (fun _ _ => Try.call20 _ _) Try.func20 rfl Try.ntmps20 Try.results20 (fun hwf => ?_); simp only [List.length_cons, List.length_nil, Nat.reduceAdd, Nat.reduceSub, List.replicate, List.cons_append, List.nil_append])
  (repeat (first | ((first | (refine And.intro ?_ ?_; focus exact PLA) | ((first | with_reducible apply callB_i | with_reducible apply callK_intro | with_reducible apply callQ_i); (focus (first | assumption | ((first | with_reducible apply c1 | with_reducible apply c2) <;> (first | assumption | rfl | (simp (disch := omega) only [go_sem]; first | done | rfl) | omega | decide | (simp; done))))); (try exact WP_au)) | refine WA_seq (WA_region ?_) | refine WA_region ?_ | refine WA_exit ?_); try simp (maxSteps := 1000000) (disch := first | omega | rfl | decide | (simp only [List.length_cons, List.length_nil, List.length_append, Bs_length, Is_length, Vs_length, Bl_length, Il_length] <;> omega)) only [go_sem, Nat.reduceAdd, Int.reduceAdd, Int.reduceSub, Int.reduceMul, Bool.not_true, Bool.not_false, w]) | refine WA_seq ?_ | refine WA_block ?_ | (refine WA_skip ?_; try simp only [go_sem]) | (refine WA_ret ?_; try simp only [go_sem]) | refine WA_ct rfl ?_ | refine WA_cf rfl ?_))
  refine ret_full (by first | exact .inr rfl | exact .inl rfl) hlen ?_
  simp (maxSteps := 1000000) (disch := first | omega | rfl | decide | (simp only [List.length_cons, List.length_nil, List.length_append, Bs_length, Is_length, Vs_length, Bl_length, Il_length] <;> omega)) only [go_sem, Nat.reduceAdd, Int.reduceAdd, Int.reduceSub, Int.reduceMul, Bool.not_true, Bool.not_false]
  try rfl

end Go.Proofs.Ytcfpninklbnifaa
/- Draws for the law on matrices. -/
namespace Go.Proofs.Ytcfpninklbnifaa
set_option linter.unusedSimpArgs false
set_option linter.unusedVariables false
set_option maxRecDepth 20000
set_option maxHeartbeats 1000000
open Go.Abs

/-- Behind a region and the test that follows it the state is told. -/
theorem WA_mid2 {P : Program} {n0 : Nat} {a b c : Code} {Q Q' Q'' : Exit → AS → Prop} {t : List Value} {H : List Blk} (ps : List (Nat × Value)) (H' : List Blk)
    (h : WA P n0 a (Then (WA P n0 b (Then (fun s' => Drop n0 s' ⟨patT t ps, H'⟩) Q')) Q'') ⟨t, H⟩) (h2 : WA P n0 c Q ⟨patT t ps, H'⟩) : WA P n0 a (Then (WA P n0 b (Then (WA P n0 c Q) Q')) Q'') ⟨t, H⟩ :=
  WA_mono h fun e s' hq => by
    cases e <;> first
      | exact WA_mono hq fun e s'' hd => by cases e <;> first | exact WA_pre hd h2 | exact hd
      | exact hq
end Go.Proofs.Ytcfpninklbnifaa
