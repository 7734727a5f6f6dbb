/- A part of the proof of FnBranches. -/
import Derived.Test.YtalbdgkbinndlaaDoorQBRH
/- Matrices: reducing one to the unit matrix. Plain. -/
namespace Go.Proofs.YtalbdgkbinndlaaDoor
set_option linter.unusedSimpArgs false
set_option linter.unusedVariables false
set_option maxRecDepth 20000
set_option maxHeartbeats 1000000
open Go.Abs

/-- How often p holds on from s. -/
def skip (p : Nat → Bool) : Nat → Nat → Nat
  | 0, _ => 0
  | f + 1, s => if p s then skip p f (s + 1) + 1 else 0
theorem skip_go {p : Nat → Bool} : ∀ f s r, r < skip p f s → p (s + r) = true
  | 0, _, _, h => by simp [skip] at h
  | f + 1, s, r, h => by
    rw [skip] at h
    split at h
    · rename_i hp
      cases r with
      | zero => exact hp
      | succ r => have := skip_go (p := p) f (s + 1) r (by omega); rwa [show s + (r + 1) = s + 1 + r by omega]
    · omega
theorem skip_end {p : Nat → Bool} : ∀ f s, skip p f s < f → p (s + skip p f s) = false
  | 0, _, h => by omega
  | f + 1, s, h => by
    rw [skip] at h ⊢
    split
    · rename_i hp
      rw [if_pos hp] at h
      have := skip_end (p := p) f (s + 1) (by omega)
      rwa [show s + (skip p f (s + 1) + 1) = s + 1 + skip p f (s + 1) by omega]
    · rename_i hp; simpa using hp

theorem tm_zero (m : Nat) (x : UInt8) : tm m 0 x = 0 := by
  have hd : ∀ k, dblN m 0 k = 0 := by
    intro k; induction k with
    | zero => rfl
    | succ k ih => rw [dblN, ih]; rfl
  have : ∀ k, mulP m 0 x.toNat k = 0 := by
    intro k; induction k with
    | zero => rfl
    | succ k ih => rw [mulP, ih, hd]; simp
  unfold tm mulN
  rw [show (0 : UInt8).toNat = 0 from rfl, this]; rfl
structure RS where
  a : Nat → UInt8
  b : Nat → UInt8
  d : UInt8
def unitP (k : Nat) : Nat → UInt8 := fun x => if x % 5 = 0 ∧ x < 5 * k then 1 else 0
def unitF : Nat → UInt8 := unitP 4
theorem unitP_zero : unitP 0 = fun _ => 0 := by funext i; simp [unitP]
theorem unitP_set (k : Nat) : upd (unitP k) (k * 4 + k) 1 = unitP (k + 1) := by
  funext i; unfold upd unitP
  by_cases h : i = k * 4 + k
  · rw [if_pos h, if_pos (by omega)]
  · rw [if_neg h]
    by_cases h2 : i % 5 = 0 ∧ i < 5 * k
    · rw [if_pos h2, if_pos (by omega)]
    · rw [if_neg h2, if_neg (by omega)]
theorem unitS_ac (h : List Blk) : AC Tryd.prog 71 [] h (.agg (Bs 16 unitF).toArray) h := by
  (refine AC_begin (fun _ _ => Tryd.call71 _ _) Tryd.func71 rfl Tryd.ntmps71 Tryd.results71 (fun hwf => ?_); simp only [List.length_cons, List.length_nil, Nat.reduceAdd, Nat.reduceSub, List.replicate, List.cons_append, List.nil_append])
  (refine sN0 ?_)
  refine WA_forP (fun k => [(2, .int .i64 k), (4, J), (5, J), (6, J), (7, J), (8, J), (9, J), (10, J), (11, J)]) (fun k => [(1, ⟨Bs 16 (unitP k), true⟩)]) (4) ?_ ?_ ?_ <;> (try simp only [patT_cons, patT_nil, patL_cons, patL_nil, list_set_zero, list_set_succ, blk_set_zero, blk_set_succ])
  · (exact sS @unitP_zero)
  · intro k hk
    (refine sN @unitP_set ?_)
    (exact sS0)
  · (refine sN0 ?_)
    (exact sR @unitF.eq_1)

end Go.Proofs.YtalbdgkbinndlaaDoor
/- Draws of matrices. -/
namespace Go.Proofs.YtalbdgkbinndlaaDoor
set_option linter.unusedSimpArgs false
set_option linter.unusedVariables false
set_option maxRecDepth 20000
set_option maxHeartbeats 1000000
open Go.Abs

def circF (f : Nat → UInt8) : Nat → UInt8 := fun q => f ((q % 4 + 4 - q / 4) % 4)
theorem circ_at {i j : Nat} {f : Nat → UInt8} (hj : j < 4) : f ((j + 4 - i) % 4) = circF f (i * 4 + j) := by
  unfold circF; rw [show (i * 4 + j) / 4 = i by omega, show (i * 4 + j) % 4 = j by omega]
def four (a b c d : UInt8) : Nat → UInt8 := fun i => if i = 0 then a else if i = 1 then b else if i = 2 then c else d
theorem Bs_four (a b c d : UInt8) : [B a, B b, B c, B d] = Bs 4 (four a b c d) := rfl
theorem circS_ac {h : List Blk} {b : Nat} {f : Nat → UInt8} {r : Bool} (hb : h[b]? = some ⟨Bs 4 f, r⟩) : AC Tryd.prog 41 [sl b 0 4 1] h (.agg (Bs 16 (circF f)).toArray) h := by
  have hbl := blt hb
  (refine AC_begin (fun _ _ => Tryd.call41 _ _) Tryd.func41 rfl Tryd.ntmps41 Tryd.results41 (fun hwf => ?_); simp only [List.length_cons, List.length_nil, Nat.reduceAdd, Nat.reduceSub, List.replicate, List.cons_append, List.nil_append])
  (refine sN0 ?_)
  refine WA_forP (fun k => [(4, .int .i64 k), (5, J), (7, J), (8, J), (9, J), (10, J), (11, J), (12, J), (13, J), (14, J), (15, J), (16, J), (17, J), (18, J), (19, J), (20, J), (21, J), (22, J), (23, J), (24, J), (25, J), (26, J)]) (fun k => [(1, ⟨Bs 16 (pre (k * 4) (circF f) fun _ => 0), true⟩)]) (4) ?_ ?_ ?_ <;> (try simp only [patT_cons, patT_nil, patL_cons, patL_nil, list_set_zero, list_set_succ, blk_set_zero, blk_set_succ])
  · rw [Nat.zero_mul, pre_zero]
    (exact sS0)
  · intro i hi
    (refine sN0 ?_)
    refine WA_forP (fun k => [(5, .int .i64 k), (11, J), (12, J), (13, J), (14, J), (15, J), (16, J), (17, J), (18, J), (19, J), (20, J), (21, J), (22, J), (23, J), (24, J), (25, J), (26, J)]) (fun k => [(1, ⟨Bs 16 (pre (i * 4 + k) (circF f) fun _ => 0), true⟩)]) (4) ?_ ?_ ?_ <;> (try simp only [patT_cons, patT_nil, patL_cons, patL_nil, list_set_zero, list_set_succ, blk_set_zero, blk_set_succ])
    · (exact sS0)
    · intro j hj
      (repeat (first | ((first | (refine And.intro ?_ ?_; focus exact PLA) | refine WA_seq (WA_region ?_) | refine WA_region ?_ | refine WA_exit ?_); try simp (maxSteps := 1000000) (disch := first | omega | rfl | decide | (simp only [List.length_cons, List.length_nil, List.length_append, LV] <;> omega)) only [go_sem, Nat.reduceAdd, Int.reduceAdd, Int.reduceSub, Int.reduceMul, Bool.not_true, Bool.not_false, look_old hb, circ_at hj, upd_pre]) | (refine (WA_rb (id := 8) [12] (SubM.refl _) mixedOk ?_); simp only [List.size_toArray, List.length_cons, List.length_nil]; (repeat (first | ((first | (refine And.intro ?_ ?_; focus exact PLA) | refine RB_take false [0, 1, 2, 3, 4, 5, 6, 7, 8, 10] 3 (by rfl) (by kernel_rfl) (by decide) (by decide +kernel) ?_ | refine RB_take true [9] 2 (by rfl) (by kernel_rfl) (by decide) (by decide +kernel) ?_ | refine RB_take false [11] 1 (by rfl) (by kernel_rfl) (by decide) (by decide +kernel) ?_ | refine RB_exec 12 _ (by rfl) (by decide +kernel) (by decide +kernel) ?_ | refine RB_done (by decide +kernel) ?_); try simp (maxSteps := 1000000) (disch := first | omega | rfl | decide | (simp only [List.length_cons, List.length_nil, List.length_append, LV] <;> omega)) only [go_sem, Nat.reduceAdd, Int.reduceAdd, Int.reduceSub, Int.reduceMul, Bool.not_true, Bool.not_false, look_old hb, circ_at hj, upd_pre])))) | refine WA_seq ?_ | refine WA_block ?_ | (refine WA_skip ?_; try simp only [go_sem]) | (refine WA_ret ?_; try simp only [go_sem]) | refine WA_ct rfl ?_ | refine WA_cf rfl ?_))
      (exact sS0)
    · (refine sN0 ?_)
      rw [show (i + 1) * 4 = i * 4 + 4 by omega]
      (exact sS0)
  · (refine sN0 ?_)
    (exact sR @Bs_pre)

theorem l03Draw_aft {h : List Blk} {b : Nat} {cv : Value} (s : SrcAt h b cv) (m : Int) :
    ∃ (f : Nat → UInt8) (h' : List Blk), Aft h h' b cv ∧ AC Tryd.prog 47 [pt b 0, .int .i64 m] h (.agg (Bs 16 f).toArray) h' := by
  have hbl := s.lt
  have a0 := s.more [⟨Bs 16 zeroF, true⟩, ⟨Bs 16 unitF, true⟩]
  obtain ⟨x, h1, hx, a1, c1⟩ := next_aft a0.src (N := 6) (by omega) (by omega)
  have hO := a1.keep (h.length + 1) ⟨Bs 16 unitF, true⟩ (by omega) (by simp)
  have hR := a1.keep (h.length) ⟨Bs 16 zeroF, true⟩ (by omega) (by simp)
  have A1 := a0.trans a1
  by_cases h0 : x = 0
  · subst h0
    obtain ⟨v1, h2, a2, c2⟩ := drawByte_aft a1.src
    obtain ⟨v2, h3, a3, c3⟩ := drawByte_aft a2.src
    have a4 := a3.src.more [⟨[B v1, B v2, B 1, B 1], true⟩]
    have A4 := ((A1.trans a2).trans a3).trans a4
    have hR4 := a4.keep _ _ (by omega) (a3.keep _ _ (by omega) (a2.keep _ _ (by omega) hR))
    have hc := circS_ac (h := h3 ++ [⟨[B v1, B v2, B 1, B 1], true⟩]) (b := h3.length) (f := four v1 v2 1 1) (r := true) (by rw [Bs_four]; simp)
    have hlen := A4.len
    refine ⟨circF (four v1 v2 1 1), (h3 ++ [(⟨[B v1, B v2, B 1, B 1], true⟩ : Blk)]).set h.length ⟨Bs 16 (circF (four v1 v2 1 1)), true⟩, A4.set s (Nat.le_refl _) _, ?_⟩
    (refine AC_begin (fun _ _ => Tryd.call47 _ _) Tryd.func47 rfl Tryd.ntmps47 Tryd.results47 (fun hwf => ?_); simp only [List.length_cons, List.length_nil, Nat.reduceAdd, Nat.reduceSub, List.replicate, List.cons_append, List.nil_append])
    (refine sW @hR4 (And.intro @unitS_ac (And.intro @c1 (And.intro @c2 (And.intro @c3 @hc)))) ?_)
    refine ret_full (by first | exact .inr rfl | exact .inl rfl) (by simp only [List.length_set, List.length_append, List.length_cons, List.length_nil] at hlen ⊢; omega) ?_
    simp (maxSteps := 1000000) (disch := first | omega | rfl | decide | (simp only [List.length_cons, List.length_nil, List.length_append, LV] <;> omega)) only [go_sem, Nat.reduceAdd, Int.reduceAdd, Int.reduceSub, Int.reduceMul, Bool.not_true, Bool.not_false, look_set (blt hR4)]
    try rfl
  · have hx0 : (x == 0) = false := by simpa using h0
    by_cases h1x : x = 1 ∧ fieldB m.toNat = true
    · obtain ⟨rfl, hf⟩ := h1x
      obtain ⟨n, rfl, hn, g0, g1⟩ := fieldB_nat hf
      obtain ⟨y, h2, hy, a2, c2⟩ := next_aft a1.src (N := 30) (by omega) (by omega)
      generalize hu : UInt8.ofNat (y * 8) = u
      have a4 := a2.src.more [⟨[B u, B (u + 1), B (u + 2), B (u + 3)], true⟩, ⟨[B (u + 4), B (u + 5), B (u + 6), B (u + 7)], true⟩]
      have A4 := (A1.trans a2).trans a4
      have hR4 := a4.keep _ _ (by omega) (a2.keep _ _ (by omega) hR)
      have hc := cauchyS_ac g0 g1 (h := h2 ++ [⟨[B u, B (u + 1), B (u + 2), B (u + 3)], true⟩, ⟨[B (u + 4), B (u + 5), B (u + 6), B (u + 7)], true⟩]) (b := h2.length) (b' := h2.length + 1) (f := four u (u + 1) (u + 2) (u + 3)) (g := four (u + 4) (u + 5) (u + 6) (u + 7)) (r := true) (r' := true) (by rw [Bs_four, Bs_four]; simp) (by rw [Bs_four, Bs_four]; simp)
      have hlen := A4.len
      refine ⟨cauF n (four u (u + 1) (u + 2) (u + 3)) (four (u + 4) (u + 5) (u + 6) (u + 7)), _, A4.set s (Nat.le_refl _) ⟨Bs 16 (cauF n (four u (u + 1) (u + 2) (u + 3)) (four (u + 4) (u + 5) (u + 6) (u + 7))), true⟩, ?_⟩
      (refine AC_begin (fun _ _ => Tryd.call47 _ _) Tryd.func47 rfl Tryd.ntmps47 Tryd.results47 (fun hwf => ?_); simp only [List.length_cons, List.length_nil, Nat.reduceAdd, Nat.reduceSub, List.replicate, List.cons_append, List.nil_append])
      (refine sW (And.intro @hx0 (And.intro @hn (And.intro @hu (And.intro @Int.toNat_natCast @hR4)))) (And.intro @unitS_ac (And.intro @c1 (And.intro @fieldS_ac (And.intro @c2 @hc)))) ?_)
      refine ret_full (by first | exact .inr rfl | exact .inl rfl) (by simp only [List.length_set, List.length_append, List.length_cons, List.length_nil] at hlen ⊢; omega) ?_
      simp (maxSteps := 1000000) (disch := first | omega | rfl | decide | (simp only [List.length_cons, List.length_nil, List.length_append, LV] <;> omega)) only [go_sem, Nat.reduceAdd, Int.reduceAdd, Int.reduceSub, Int.reduceMul, Bool.not_true, Bool.not_false, look_set (blt hR4)]
      try rfl
    · by_cases h2x : x = 2
      · subst h2x
        obtain ⟨q, h2, hq, a2, c2⟩ := next_aft a1.src (N := 5) (by omega) (by omega)
        have A2 := A1.trans a2
        obtain ⟨st, e0, hI, hRt⟩ := seq_ex (S := List Blk × (Nat → UInt8)) (n := q)
          (I := fun _ s => s.1[h.length + 1]? = some ⟨Bs 16 s.2, true⟩ ∧ s.1[h.length]? = some ⟨Bs 16 zeroF, true⟩ ∧ Aft h s.1 b cv)
          (R := fun _ s t => ∃ (i j : Nat) (v : UInt8) (M1 M2 M3 : List Blk), i < 4 ∧ j < 4 ∧ AC Tryd.prog 32 [pt b 0, .int .i64 ((4 : Nat) : Int)] s.1 (.int .i64 i) M1 ∧ AC Tryd.prog 32 [pt b 0, .int .i64 ((4 : Nat) : Int)] M1 (.int .i64 j) M2 ∧ AC Tryd.prog 40 [pt b 0] M2 (B v) M3 ∧ M3[h.length + 1]? = some ⟨Bs 16 s.2, true⟩ ∧ t = (M3.set (h.length + 1) ⟨Bs 16 (upd s.2 (i * 4 + j) v), true⟩, upd s.2 (i * 4 + j) v))
          (h2, unitF) ⟨a2.keep _ _ (by omega) hO, a2.keep _ _ (by omega) hR, A2⟩ (fun k hk s0 ⟨i1, i2, i3⟩ => by
            obtain ⟨i, M1, hi, r1, d1⟩ := next_aft i3.src (N := 4) (by omega) (by omega)
            obtain ⟨j, M2, hj, r2, d2⟩ := next_aft r1.src (N := 4) (by omega) (by omega)
            obtain ⟨v, M3, r3, d3⟩ := drawByte_aft r2.src
            have a := (r1.trans r2).trans r3
            have j1 := a.keep _ _ (by omega) i1
            have j2 := a.keep _ _ (by omega) i2
            exact ⟨_, ⟨look_set (blt j1), set_at j2 (by omega), (i3.trans a).set s (by omega) _⟩, i, j, v, M1, M2, M3, hi, hj, d1, d2, d3, j1, rfl⟩)
        obtain ⟨f1, f2, f3⟩ := hI q (Nat.le_refl _)
        have hlen := f3.len
        refine ⟨(st q).2, (st q).1.set h.length ⟨Bs 16 (st q).2, true⟩, f3.set s (Nat.le_refl _) _, ?_⟩
        (refine AC_begin (fun _ _ => Tryd.call47 _ _) Tryd.func47 rfl Tryd.ntmps47 Tryd.results47 (fun hwf => ?_); simp only [List.length_cons, List.length_nil, Nat.reduceAdd, Nat.reduceSub, List.replicate, List.cons_append, List.nil_append])
        (refine sW @hx0 (And.intro @unitS_ac (And.intro @c1 @c2)) ?_)
        refine WA_forH (fun k => [(7, .int .i64 ((q - k : Nat))), (54, J), (55, J), (56, J), (57, J), (58, J), (59, J), (60, J), (61, J), (62, J), (63, J), (64, J), (65, J)]) (fun k => (st k).1) (q) ?_ ?_ ?_ <;> (try simp only [patT_cons, patT_nil, patL_cons, patL_nil, list_set_zero, list_set_succ, blk_set_zero, blk_set_succ])
        · have e1 : (st 0).1 = h2 := by rw [e0]
          have l1 := A2.len
          rw [e1]
          (exact sA0)
        · intro k hk
          obtain ⟨i, j, v, M1, M2, M3, hi, hj, d1, d2, d3, j1, e⟩ := hRt k hk
          have l1 := (hI (k + 1) hk).2.2.len
          rw [e] at l1 ⊢
          (repeat (first | ((first | (refine And.intro ?_ ?_; focus exact PLA) | ((first | with_reducible apply callB_i | with_reducible apply callK_intro | with_reducible apply callQ_i); (focus (first | assumption | ((first | with_reducible apply d1 | with_reducible apply d2 | with_reducible apply d3) <;> (first | assumption | rfl | (simp (disch := omega) only [go_sem]; first | done | rfl) | omega | decide | (simp; done))))); (try exact WP_au)) | refine WA_seq (WA_region ?_) | refine WA_region ?_ | refine WA_exit ?_); try simp (maxSteps := 1000000) (disch := first | omega | rfl | decide | (simp only [List.length_cons, List.length_nil, List.length_append, LV] <;> omega)) only [go_sem, Nat.reduceAdd, Int.reduceAdd, Int.reduceSub, Int.reduceMul, Bool.not_true, Bool.not_false, j1, decide_eq_true (show 0 < q - k by omega)]) | (refine (WA_rb (id := 13) [1, 3, 5, 8] (SubM.refl _) mixedOk ?_); simp only [List.size_toArray, List.length_cons, List.length_nil]; (repeat (first | ((first | (refine And.intro ?_ ?_; focus exact PLA) | ((first | with_reducible apply callB_i | with_reducible apply callK_intro | with_reducible apply callQ_i); (focus (first | assumption | ((first | with_reducible apply d1 | with_reducible apply d2 | with_reducible apply d3) <;> (first | assumption | rfl | (simp (disch := omega) only [go_sem]; first | done | rfl) | omega | decide | (simp; done))))); (try exact WP_au)) | refine RB_take false [0, 2, 4] 6 (by rfl) (by kernel_rfl) (by decide) (by decide +kernel) ?_ | refine RB_exec 1 _ (by rfl) (by decide +kernel) (by decide +kernel) ?_ | refine RB_take false [6] 4 (by rfl) (by kernel_rfl) (by decide) (by decide +kernel) ?_ | refine RB_exec 3 _ (by rfl) (by decide +kernel) (by decide +kernel) ?_ | refine RB_exec 5 _ (by rfl) (by decide +kernel) (by decide +kernel) ?_ | refine RB_take false [7] 1 (by rfl) (by kernel_rfl) (by decide) (by decide +kernel) ?_ | refine RB_exec 8 _ (by rfl) (by decide +kernel) (by decide +kernel) ?_ | refine RB_done (by decide +kernel) ?_); try simp (maxSteps := 1000000) (disch := first | omega | rfl | decide | (simp only [List.length_cons, List.length_nil, List.length_append, LV] <;> omega)) only [go_sem, Nat.reduceAdd, Int.reduceAdd, Int.reduceSub, Int.reduceMul, Bool.not_true, Bool.not_false, j1, decide_eq_true (show 0 < q - k by omega)])))) | refine WA_seq ?_ | refine WA_block ?_ | (refine WA_skip ?_; try simp only [go_sem]) | (refine WA_ret ?_; try simp only [go_sem]) | refine WA_ct rfl ?_ | refine WA_cf rfl ?_))
          all_goals (exact sA0)
        · (refine sN (And.intro @f1 (And.intro @f2 @Nat.sub_self)) ?_)
          refine ret_full (by first | exact .inr rfl | exact .inl rfl) (by simpa using hlen) ?_
          simp (maxSteps := 1000000) (disch := first | omega | rfl | decide | (simp only [List.length_cons, List.length_nil, List.length_append, LV] <;> omega)) only [go_sem, Nat.reduceAdd, Int.reduceAdd, Int.reduceSub, Int.reduceMul, Bool.not_true, Bool.not_false, look_set (blt f2)]
          try rfl
      · by_cases h3x : x = 3
        · subst h3x
          obtain ⟨y, h2, hy, a2, c2⟩ := next_aft a1.src (N := 4) (by omega) (by omega)
          have A2 := A1.trans a2
          have hO2 := a2.keep _ _ (by omega) hO
          have hR2 := a2.keep _ _ (by omega) hR
          have a3 := a2.src.more [⟨Bs 4 fun i => unitF (0 * 4 + i), true⟩]
          have A3 := A2.trans a3
          have hlen := A3.len
          have hO3 := a3.keep _ _ (by omega) hO2
          have hR3 := a3.keep _ _ (by omega) hR2
          have l2 := blt hO2
          have hX : (h2 ++ [(⟨Bs 4 fun i => unitF (0 * 4 + i), true⟩ : Blk)])[h2.length]? = some ⟨Bs 4 fun i => unitF (0 * 4 + i), true⟩ := by simp
          have hX2 := set_at (x := ⟨Bs 16 (over unitF (0 * 4) 4 fun i => unitF (y * 4 + i)), true⟩) hX (show h.length + 1 ≠ h2.length by omega)
          generalize hg : over (over unitF (0 * 4) 4 fun i => unitF (y * 4 + i)) (y * 4) 4 (fun i => unitF (0 * 4 + i)) = g
          have hR4 := set_at (x := ⟨Bs 16 g, true⟩) hR3 (show h.length + 1 ≠ h.length by omega)
          refine ⟨g, _, (A3.set s (Nat.le_succ _) ⟨Bs 16 g, true⟩).set s (Nat.le_refl _) ⟨Bs 16 g, true⟩, ?_⟩
          (refine AC_begin (fun _ _ => Tryd.call47 _ _) Tryd.func47 rfl Tryd.ntmps47 Tryd.results47 (fun hwf => ?_); simp only [List.length_cons, List.length_nil, Nat.reduceAdd, Nat.reduceSub, List.replicate, List.cons_append, List.nil_append])
          (repeat (first | ((first | (refine And.intro ?_ ?_; focus exact PLA) | ((first | with_reducible apply callB_i | with_reducible apply callK_intro | with_reducible apply callQ_i); (focus (first | assumption | ((first | with_reducible apply unitS_ac | with_reducible apply c1 | with_reducible apply c2) <;> (first | assumption | rfl | (simp (disch := omega) only [go_sem]; first | done | rfl) | omega | decide | (simp; done))))); (try exact WP_au)) | refine WA_seq (WA_region ?_) | refine WA_region ?_ | refine WA_exit ?_); try simp (maxSteps := 1000000) (disch := first | omega | rfl | decide | (simp only [List.length_cons, List.length_nil, List.length_append, LV] <;> omega)) only [go_sem, Nat.reduceAdd, Int.reduceAdd, Int.reduceSub, Int.reduceMul, Bool.not_true, Bool.not_false, beq_self_eq_true, hx0, hO2, hR2, hO3, hR3, look_set (blt hO3), List.set_set, hX2, hg, hR4]) | refine WA_seq ?_ | refine WA_block ?_ | (refine WA_skip ?_; try simp only [go_sem]) | (refine WA_ret ?_; try simp only [go_sem]) | refine WA_ct rfl ?_ | refine WA_cf rfl ?_))
          refine ret_full (by first | exact .inr rfl | exact .inl rfl) (by simpa using hlen) ?_
          simp (maxSteps := 1000000) (disch := first | omega | rfl | decide | (simp only [List.length_cons, List.length_nil, List.length_append, LV] <;> omega)) only [go_sem, Nat.reduceAdd, Int.reduceAdd, Int.reduceSub, Int.reduceMul, Bool.not_true, Bool.not_false, look_set (blt hR4)]
          try rfl
        · obtain ⟨st, e0, hI, hRt⟩ := seq_ex (S := List Blk × (Nat → UInt8)) (n := 16)
            (I := fun _ s => s.1[h.length + 1]? = some ⟨Bs 16 s.2, true⟩ ∧ s.1[h.length]? = some ⟨Bs 16 zeroF, true⟩ ∧ Aft h s.1 b cv)
            (R := fun k s t => ∃ (v : UInt8) (M : List Blk), AC Tryd.prog 40 [pt b 0] s.1 (B v) M ∧ M[h.length + 1]? = some ⟨Bs 16 s.2, true⟩ ∧ t = (M.set (h.length + 1) ⟨Bs 16 (upd s.2 k v), true⟩, upd s.2 k v))
            (h1, unitF) ⟨hO, hR, A1⟩ (fun k hk s0 ⟨i1, i2, i3⟩ => by
              obtain ⟨v, M, a, c⟩ := drawByte_aft i3.src
              have j1 := a.keep _ _ (by omega) i1
              have j2 := a.keep _ _ (by omega) i2
              exact ⟨_, ⟨look_set (blt j1), set_at j2 (by omega), (i3.trans a).set s (by omega) _⟩, v, M, c, j1, rfl⟩)
          obtain ⟨f1, f2, f3⟩ := hI 16 (Nat.le_refl _)
          obtain ⟨z, h9, _, a9, c9⟩ := next_aft f3.src (N := 8) (by omega) (by omega)
          have A9 := f3.trans a9
          have k1 := a9.keep _ _ (by omega) f1
          have k2 := a9.keep _ _ (by omega) f2
          have hlen := A9.len
          have hx2 : (x == 2) = false := by simpa using h2x
          have hx3 : (x == 3) = false := by simpa using h3x
          by_cases hz0 : z = 0
          · subst hz0
            generalize hg : over (st 16).2 (3 * 4) 4 (fun i => (st 16).2 (0 * 4 + i)) = g
            have hR4 := set_at (x := ⟨Bs 16 g, true⟩) k2 (show h.length + 1 ≠ h.length by omega)
            refine ⟨g, _, (A9.set s (Nat.le_succ _) ⟨Bs 16 g, true⟩).set s (Nat.le_refl _) ⟨Bs 16 g, true⟩, ?_⟩
            by_cases hx1 : x = 1
            · subst hx1
              have hf : fieldB m.toNat = false := by simpa using h1x
              (refine AC_begin (fun _ _ => Tryd.call47 _ _) Tryd.func47 rfl Tryd.ntmps47 Tryd.results47 (fun hwf => ?_); simp only [List.length_cons, List.length_nil, Nat.reduceAdd, Nat.reduceSub, List.replicate, List.cons_append, List.nil_append])
              (refine sW (And.intro @hx0 @hf) (And.intro @unitS_ac (And.intro @c1 @fieldS_ac)) ?_)
              refine WA_forH (fun k => [(10, .int .i64 k), (11, J), (81, J), (82, J), (83, J), (84, J), (85, J), (86, J), (87, J), (88, J), (89, J), (90, J), (91, J), (92, J), (93, J), (94, J)]) (fun k => (st (k * 4)).1) (4) ?_ ?_ ?_ <;> (try simp only [patT_cons, patT_nil, patL_cons, patL_nil, list_set_zero, list_set_succ, blk_set_zero, blk_set_succ])
              · have e1 : (st (0 * 4)).1 = h1 := by rw [Nat.zero_mul, e0]
                have l1 := A1.len
                rw [e1]
                (exact sA0)
              · intro i hi
                (refine sN0 ?_)
                refine WA_forH (fun k => [(11, .int .i64 k), (85, J), (86, J), (87, J), (88, J), (89, J), (90, J), (91, J), (92, J), (93, J), (94, J)]) (fun k => (st (i * 4 + k)).1) (4) ?_ ?_ ?_ <;> (try simp only [patT_cons, patT_nil, patL_cons, patL_nil, list_set_zero, list_set_succ, blk_set_zero, blk_set_succ])
                · have l1 := (hI (i * 4) (by omega)).2.2.len
                  rw [Nat.add_zero]
                  (exact sA0)
                · intro j hj
                  obtain ⟨v, M, c, j1, e⟩ := hRt (i * 4 + j) (by omega)
                  have l1 := (hI (i * 4 + j + 1) (by omega)).2.2.len
                  rw [← Nat.add_assoc]
                  rw [e] at l1 ⊢
                  (repeat (first | ((first | (refine And.intro ?_ ?_; focus exact PLA) | ((first | with_reducible apply callB_i | with_reducible apply callK_intro | with_reducible apply callQ_i); (focus (first | assumption | (with_reducible apply c <;> (first | assumption | rfl | (simp (disch := omega) only [go_sem]; first | done | rfl) | omega | decide | (simp; done))))); (try exact WP_au)) | refine WA_seq (WA_region ?_) | refine WA_region ?_ | refine WA_exit ?_); try simp (maxSteps := 1000000) (disch := first | omega | rfl | decide | (simp only [List.length_cons, List.length_nil, List.length_append, LV] <;> omega)) only [go_sem, Nat.reduceAdd, Int.reduceAdd, Int.reduceSub, Int.reduceMul, Bool.not_true, Bool.not_false, j1]) | (refine (WA_rb (id := 27) [3, 6] (SubM.refl _) mixedOk ?_); simp only [List.size_toArray, List.length_cons, List.length_nil]; (repeat (first | ((first | (refine And.intro ?_ ?_; focus exact PLA) | ((first | with_reducible apply callB_i | with_reducible apply callK_intro | with_reducible apply callQ_i); (focus (first | assumption | (with_reducible apply c <;> (first | assumption | rfl | (simp (disch := omega) only [go_sem]; first | done | rfl) | omega | decide | (simp; done))))); (try exact WP_au)) | refine RB_take false [0, 1, 2, 4] 3 (by rfl) (by kernel_rfl) (by decide) (by decide +kernel) ?_ | refine RB_exec 3 _ (by rfl) (by decide +kernel) (by decide +kernel) ?_ | refine RB_take false [5] 1 (by rfl) (by kernel_rfl) (by decide) (by decide +kernel) ?_ | refine RB_exec 6 _ (by rfl) (by decide +kernel) (by decide +kernel) ?_ | refine RB_done (by decide +kernel) ?_); try simp (maxSteps := 1000000) (disch := first | omega | rfl | decide | (simp only [List.length_cons, List.length_nil, List.length_append, LV] <;> omega)) only [go_sem, Nat.reduceAdd, Int.reduceAdd, Int.reduceSub, Int.reduceMul, Bool.not_true, Bool.not_false, j1])))) | refine WA_seq ?_ | refine WA_block ?_ | (refine WA_skip ?_; try simp only [go_sem]) | (refine WA_ret ?_; try simp only [go_sem]) | refine WA_ct rfl ?_ | refine WA_cf rfl ?_))
                  all_goals (exact sA0)
                · have l1 := (hI (i * 4 + 4) (by omega)).2.2.len
                  rw [show (i + 1) * 4 = i * 4 + 4 by omega]
                  (refine sN0 ?_)
                  (exact sA0)
              · rw [show 4 * 4 = 16 from rfl]
                (repeat (first | ((first | (refine And.intro ?_ ?_; focus exact PLA) | ((first | with_reducible apply callB_i | with_reducible apply callK_intro | with_reducible apply callQ_i); (focus (first | assumption | (with_reducible apply c9 <;> (first | assumption | rfl | (simp (disch := omega) only [go_sem]; first | done | rfl) | omega | decide | (simp; done))))); (try exact WP_au)) | refine WA_seq (WA_region ?_) | refine WA_region ?_ | refine WA_exit ?_); try simp (maxSteps := 1000000) (disch := first | omega | rfl | decide | (simp only [List.length_cons, List.length_nil, List.length_append, LV] <;> omega)) only [go_sem, Nat.reduceAdd, Int.reduceAdd, Int.reduceSub, Int.reduceMul, Bool.not_true, Bool.not_false, beq_self_eq_true, k1, k2, look_set (blt k1), hg, hR4]) | refine WA_seq ?_ | refine WA_block ?_ | (refine WA_skip ?_; try simp only [go_sem]) | (refine WA_ret ?_; try simp only [go_sem]) | refine WA_ct rfl ?_ | refine WA_cf rfl ?_))
                refine ret_full (by first | exact .inr rfl | exact .inl rfl) (by simpa using hlen) ?_
                simp (maxSteps := 1000000) (disch := first | omega | rfl | decide | (simp only [List.length_cons, List.length_nil, List.length_append, LV] <;> omega)) only [go_sem, Nat.reduceAdd, Int.reduceAdd, Int.reduceSub, Int.reduceMul, Bool.not_true, Bool.not_false, look_set (blt hR4)]
                try rfl
            · have hx1' : (x == 1) = false := by simpa using hx1
              (refine AC_begin (fun _ _ => Tryd.call47 _ _) Tryd.func47 rfl Tryd.ntmps47 Tryd.results47 (fun hwf => ?_); simp only [List.length_cons, List.length_nil, Nat.reduceAdd, Nat.reduceSub, List.replicate, List.cons_append, List.nil_append])
              (refine sW (And.intro @hx0 (And.intro @hx1' (And.intro @hx2 @hx3))) (And.intro @unitS_ac @c1) ?_)
              refine WA_forH (fun k => [(10, .int .i64 k), (11, J), (81, J), (82, J), (83, J), (84, J), (85, J), (86, J), (87, J), (88, J), (89, J), (90, J), (91, J), (92, J), (93, J), (94, J)]) (fun k => (st (k * 4)).1) (4) ?_ ?_ ?_ <;> (try simp only [patT_cons, patT_nil, patL_cons, patL_nil, list_set_zero, list_set_succ, blk_set_zero, blk_set_succ])
              · have e1 : (st (0 * 4)).1 = h1 := by rw [Nat.zero_mul, e0]
                have l1 := A1.len
                rw [e1]
                (exact sA0)
              · intro i hi
                (refine sN0 ?_)
                refine WA_forH (fun k => [(11, .int .i64 k), (85, J), (86, J), (87, J), (88, J), (89, J), (90, J), (91, J), (92, J), (93, J), (94, J)]) (fun k => (st (i * 4 + k)).1) (4) ?_ ?_ ?_ <;> (try simp only [patT_cons, patT_nil, patL_cons, patL_nil, list_set_zero, list_set_succ, blk_set_zero, blk_set_succ])
                · have l1 := (hI (i * 4) (by omega)).2.2.len
                  rw [Nat.add_zero]
                  (exact sA0)
                · intro j hj
                  obtain ⟨v, M, c, j1, e⟩ := hRt (i * 4 + j) (by omega)
                  have l1 := (hI (i * 4 + j + 1) (by omega)).2.2.len
                  rw [← Nat.add_assoc]
                  rw [e] at l1 ⊢
                  (repeat (first | ((first | (refine And.intro ?_ ?_; focus exact PLA) | ((first | with_reducible apply callB_i | with_reducible apply callK_intro | with_reducible apply callQ_i); (focus (first | assumption | (with_reducible apply c <;> (first | assumption | rfl | (simp (disch := omega) only [go_sem]; first | done | rfl) | omega | decide | (simp; done))))); (try exact WP_au)) | refine WA_seq (WA_region ?_) | refine WA_region ?_ | refine WA_exit ?_); try simp (maxSteps := 1000000) (disch := first | omega | rfl | decide | (simp only [List.length_cons, List.length_nil, List.length_append, LV] <;> omega)) only [go_sem, Nat.reduceAdd, Int.reduceAdd, Int.reduceSub, Int.reduceMul, Bool.not_true, Bool.not_false, j1]) | (refine (WA_rb (id := 27) [3, 6] (SubM.refl _) mixedOk ?_); simp only [List.size_toArray, List.length_cons, List.length_nil]; (repeat (first | ((first | (refine And.intro ?_ ?_; focus exact PLA) | ((first | with_reducible apply callB_i | with_reducible apply callK_intro | with_reducible apply callQ_i); (focus (first | assumption | (with_reducible apply c <;> (first | assumption | rfl | (simp (disch := omega) only [go_sem]; first | done | rfl) | omega | decide | (simp; done))))); (try exact WP_au)) | refine RB_take false [0, 1, 2, 4] 3 (by rfl) (by kernel_rfl) (by decide) (by decide +kernel) ?_ | refine RB_exec 3 _ (by rfl) (by decide +kernel) (by decide +kernel) ?_ | refine RB_take false [5] 1 (by rfl) (by kernel_rfl) (by decide) (by decide +kernel) ?_ | refine RB_exec 6 _ (by rfl) (by decide +kernel) (by decide +kernel) ?_ | refine RB_done (by decide +kernel) ?_); try simp (maxSteps := 1000000) (disch := first | omega | rfl | decide | (simp only [List.length_cons, List.length_nil, List.length_append, LV] <;> omega)) only [go_sem, Nat.reduceAdd, Int.reduceAdd, Int.reduceSub, Int.reduceMul, Bool.not_true, Bool.not_false, j1])))) | refine WA_seq ?_ | refine WA_block ?_ | (refine WA_skip ?_; try simp only [go_sem]) | (refine WA_ret ?_; try simp only [go_sem]) | refine WA_ct rfl ?_ | refine WA_cf rfl ?_))
                  all_goals (exact sA0)
                · have l1 := (hI (i * 4 + 4) (by omega)).2.2.len
                  rw [show (i + 1) * 4 = i * 4 + 4 by omega]
                  (refine sN0 ?_)
                  (exact sA0)
              · rw [show 4 * 4 = 16 from rfl]
                (repeat (first | ((first | (refine And.intro ?_ ?_; focus exact PLA) | ((first | with_reducible apply callB_i | with_reducible apply callK_intro | with_reducible apply callQ_i); (focus (first | assumption | (with_reducible apply c9 <;> (first | assumption | rfl | (simp (disch := omega) only [go_sem]; first | done | rfl) | omega | decide | (simp; done))))); (try exact WP_au)) | refine WA_seq (WA_region ?_) | refine WA_region ?_ | refine WA_exit ?_); try simp (maxSteps := 1000000) (disch := first | omega | rfl | decide | (simp only [List.length_cons, List.length_nil, List.length_append, LV] <;> omega)) only [go_sem, Nat.reduceAdd, Int.reduceAdd, Int.reduceSub, Int.reduceMul, Bool.not_true, Bool.not_false, beq_self_eq_true, k1, k2, look_set (blt k1), hg, hR4]) | refine WA_seq ?_ | refine WA_block ?_ | (refine WA_skip ?_; try simp only [go_sem]) | (refine WA_ret ?_; try simp only [go_sem]) | refine WA_ct rfl ?_ | refine WA_cf rfl ?_))
                refine ret_full (by first | exact .inr rfl | exact .inl rfl) (by simpa using hlen) ?_
                simp (maxSteps := 1000000) (disch := first | omega | rfl | decide | (simp only [List.length_cons, List.length_nil, List.length_append, LV] <;> omega)) only [go_sem, Nat.reduceAdd, Int.reduceAdd, Int.reduceSub, Int.reduceMul, Bool.not_true, Bool.not_false, look_set (blt hR4)]
                try rfl
          · have hz : (z == 0) = false := by simpa using hz0
            refine ⟨(st 16).2, h9.set h.length ⟨Bs 16 (st 16).2, true⟩, A9.set s (Nat.le_refl _) _, ?_⟩
            by_cases hx1 : x = 1
            · subst hx1
              have hf : fieldB m.toNat = false := by simpa using h1x
              (refine AC_begin (fun _ _ => Tryd.call47 _ _) Tryd.func47 rfl Tryd.ntmps47 Tryd.results47 (fun hwf => ?_); simp only [List.length_cons, List.length_nil, Nat.reduceAdd, Nat.reduceSub, List.replicate, List.cons_append, List.nil_append])
              (refine sW (And.intro @hx0 @hf) (And.intro @unitS_ac (And.intro @c1 @fieldS_ac)) ?_)
              refine WA_forH (fun k => [(10, .int .i64 k), (11, J), (81, J), (82, J), (83, J), (84, J), (85, J), (86, J), (87, J), (88, J), (89, J), (90, J), (91, J), (92, J), (93, J), (94, J)]) (fun k => (st (k * 4)).1) (4) ?_ ?_ ?_ <;> (try simp only [patT_cons, patT_nil, patL_cons, patL_nil, list_set_zero, list_set_succ, blk_set_zero, blk_set_succ])
              · have e1 : (st (0 * 4)).1 = h1 := by rw [Nat.zero_mul, e0]
                have l1 := A1.len
                rw [e1]
                (exact sA0)
              · intro i hi
                (refine sN0 ?_)
                refine WA_forH (fun k => [(11, .int .i64 k), (85, J), (86, J), (87, J), (88, J), (89, J), (90, J), (91, J), (92, J), (93, J), (94, J)]) (fun k => (st (i * 4 + k)).1) (4) ?_ ?_ ?_ <;> (try simp only [patT_cons, patT_nil, patL_cons, patL_nil, list_set_zero, list_set_succ, blk_set_zero, blk_set_succ])
                · have l1 := (hI (i * 4) (by omega)).2.2.len
                  rw [Nat.add_zero]
                  (exact sA0)
                · intro j hj
                  obtain ⟨v, M, c, j1, e⟩ := hRt (i * 4 + j) (by omega)
                  have l1 := (hI (i * 4 + j + 1) (by omega)).2.2.len
                  rw [← Nat.add_assoc]
                  rw [e] at l1 ⊢
                  (repeat (first | ((first | (refine And.intro ?_ ?_; focus exact PLA) | ((first | with_reducible apply callB_i | with_reducible apply callK_intro | with_reducible apply callQ_i); (focus (first | assumption | (with_reducible apply c <;> (first | assumption | rfl | (simp (disch := omega) only [go_sem]; first | done | rfl) | omega | decide | (simp; done))))); (try exact WP_au)) | refine WA_seq (WA_region ?_) | refine WA_region ?_ | refine WA_exit ?_); try simp (maxSteps := 1000000) (disch := first | omega | rfl | decide | (simp only [List.length_cons, List.length_nil, List.length_append, LV] <;> omega)) only [go_sem, Nat.reduceAdd, Int.reduceAdd, Int.reduceSub, Int.reduceMul, Bool.not_true, Bool.not_false, j1]) | (refine (WA_rb (id := 27) [3, 6] (SubM.refl _) mixedOk ?_); simp only [List.size_toArray, List.length_cons, List.length_nil]; (repeat (first | ((first | (refine And.intro ?_ ?_; focus exact PLA) | ((first | with_reducible apply callB_i | with_reducible apply callK_intro | with_reducible apply callQ_i); (focus (first | assumption | (with_reducible apply c <;> (first | assumption | rfl | (simp (disch := omega) only [go_sem]; first | done | rfl) | omega | decide | (simp; done))))); (try exact WP_au)) | refine RB_take false [0, 1, 2, 4] 3 (by rfl) (by kernel_rfl) (by decide) (by decide +kernel) ?_ | refine RB_exec 3 _ (by rfl) (by decide +kernel) (by decide +kernel) ?_ | refine RB_take false [5] 1 (by rfl) (by kernel_rfl) (by decide) (by decide +kernel) ?_ | refine RB_exec 6 _ (by rfl) (by decide +kernel) (by decide +kernel) ?_ | refine RB_done (by decide +kernel) ?_); try simp (maxSteps := 1000000) (disch := first | omega | rfl | decide | (simp only [List.length_cons, List.length_nil, List.length_append, LV] <;> omega)) only [go_sem, Nat.reduceAdd, Int.reduceAdd, Int.reduceSub, Int.reduceMul, Bool.not_true, Bool.not_false, j1])))) | refine WA_seq ?_ | refine WA_block ?_ | (refine WA_skip ?_; try simp only [go_sem]) | (refine WA_ret ?_; try simp only [go_sem]) | refine WA_ct rfl ?_ | refine WA_cf rfl ?_))
                  all_goals (exact sA0)
                · have l1 := (hI (i * 4 + 4) (by omega)).2.2.len
                  rw [show (i + 1) * 4 = i * 4 + 4 by omega]
                  (refine sN0 ?_)
                  (exact sA0)
              · rw [show 4 * 4 = 16 from rfl]
                (refine sW (And.intro @hz (And.intro @k1 @k2)) @c9 ?_)
                refine ret_full (by first | exact .inr rfl | exact .inl rfl) (by simpa using hlen) ?_
                simp (maxSteps := 1000000) (disch := first | omega | rfl | decide | (simp only [List.length_cons, List.length_nil, List.length_append, LV] <;> omega)) only [go_sem, Nat.reduceAdd, Int.reduceAdd, Int.reduceSub, Int.reduceMul, Bool.not_true, Bool.not_false, look_set (blt k2)]
                try rfl
            · have hx1' : (x == 1) = false := by simpa using hx1
              (refine AC_begin (fun _ _ => Tryd.call47 _ _) Tryd.func47 rfl Tryd.ntmps47 Tryd.results47 (fun hwf => ?_); simp only [List.length_cons, List.length_nil, Nat.reduceAdd, Nat.reduceSub, List.replicate, List.cons_append, List.nil_append])
              (refine sW (And.intro @hx0 (And.intro @hx1' (And.intro @hx2 @hx3))) (And.intro @unitS_ac @c1) ?_)
              refine WA_forH (fun k => [(10, .int .i64 k), (11, J), (81, J), (82, J), (83, J), (84, J), (85, J), (86, J), (87, J), (88, J), (89, J), (90, J), (91, J), (92, J), (93, J), (94, J)]) (fun k => (st (k * 4)).1) (4) ?_ ?_ ?_ <;> (try simp only [patT_cons, patT_nil, patL_cons, patL_nil, list_set_zero, list_set_succ, blk_set_zero, blk_set_succ])
              · have e1 : (st (0 * 4)).1 = h1 := by rw [Nat.zero_mul, e0]
                have l1 := A1.len
                rw [e1]
                (exact sA0)
              · intro i hi
                (refine sN0 ?_)
                refine WA_forH (fun k => [(11, .int .i64 k), (85, J), (86, J), (87, J), (88, J), (89, J), (90, J), (91, J), (92, J), (93, J), (94, J)]) (fun k => (st (i * 4 + k)).1) (4) ?_ ?_ ?_ <;> (try simp only [patT_cons, patT_nil, patL_cons, patL_nil, list_set_zero, list_set_succ, blk_set_zero, blk_set_succ])
                · have l1 := (hI (i * 4) (by omega)).2.2.len
                  rw [Nat.add_zero]
                  (exact sA0)
                · intro j hj
                  obtain ⟨v, M, c, j1, e⟩ := hRt (i * 4 + j) (by omega)
                  have l1 := (hI (i * 4 + j + 1) (by omega)).2.2.len
                  rw [← Nat.add_assoc]
                  rw [e] at l1 ⊢
                  (repeat (first | ((first | (refine And.intro ?_ ?_; focus exact PLA) | ((first | with_reducible apply callB_i | with_reducible apply callK_intro | with_reducible apply callQ_i); (focus (first | assumption | (with_reducible apply c <;> (first | assumption | rfl | (simp (disch := omega) only [go_sem]; first | done | rfl) | omega | decide | (simp; done))))); (try exact WP_au)) | refine WA_seq (WA_region ?_) | refine WA_region ?_ | refine WA_exit ?_); try simp (maxSteps := 1000000) (disch := first | omega | rfl | decide | (simp only [List.length_cons, List.length_nil, List.length_append, LV] <;> omega)) only [go_sem, Nat.reduceAdd, Int.reduceAdd, Int.reduceSub, Int.reduceMul, Bool.not_true, Bool.not_false, j1]) | (refine (WA_rb (id := 27) [3, 6] (SubM.refl _) mixedOk ?_); simp only [List.size_toArray, List.length_cons, List.length_nil]; (repeat (first | ((first | (refine And.intro ?_ ?_; focus exact PLA) | ((first | with_reducible apply callB_i | with_reducible apply callK_intro | with_reducible apply callQ_i); (focus (first | assumption | (with_reducible apply c <;> (first | assumption | rfl | (simp (disch := omega) only [go_sem]; first | done | rfl) | omega | decide | (simp; done))))); (try exact WP_au)) | refine RB_take false [0, 1, 2, 4] 3 (by rfl) (by kernel_rfl) (by decide) (by decide +kernel) ?_ | refine RB_exec 3 _ (by rfl) (by decide +kernel) (by decide +kernel) ?_ | refine RB_take false [5] 1 (by rfl) (by kernel_rfl) (by decide) (by decide +kernel) ?_ | refine RB_exec 6 _ (by rfl) (by decide +kernel) (by decide +kernel) ?_ | refine RB_done (by decide +kernel) ?_); try simp (maxSteps := 1000000) (disch := first | omega | rfl | decide | (simp only [List.length_cons, List.length_nil, List.length_append, LV] <;> omega)) only [go_sem, Nat.reduceAdd, Int.reduceAdd, Int.reduceSub, Int.reduceMul, Bool.not_true, Bool.not_false, j1])))) | refine WA_seq ?_ | refine WA_block ?_ | (refine WA_skip ?_; try simp only [go_sem]) | (refine WA_ret ?_; try simp only [go_sem]) | refine WA_ct rfl ?_ | refine WA_cf rfl ?_))
                  all_goals (exact sA0)
                · have l1 := (hI (i * 4 + 4) (by omega)).2.2.len
                  rw [show (i + 1) * 4 = i * 4 + 4 by omega]
                  (refine sN0 ?_)
                  (exact sA0)
              · rw [show 4 * 4 = 16 from rfl]
                (refine sW (And.intro @hz (And.intro @k1 @k2)) @c9 ?_)
                refine ret_full (by first | exact .inr rfl | exact .inl rfl) (by simpa using hlen) ?_
                simp (maxSteps := 1000000) (disch := first | omega | rfl | decide | (simp only [List.length_cons, List.length_nil, List.length_append, LV] <;> omega)) only [go_sem, Nat.reduceAdd, Int.reduceAdd, Int.reduceSub, Int.reduceMul, Bool.not_true, Bool.not_false, look_set (blt k2)]
                try rfl

end Go.Proofs.YtalbdgkbinndlaaDoor
/- Ranks by elimination, rows and columns chosen by masks. Plain. -/
namespace Go.Proofs.YtalbdgkbinndlaaDoor
set_option linter.unusedSimpArgs false
set_option linter.unusedVariables false
set_option maxRecDepth 20000
set_option maxHeartbeats 1000000
open Go.Abs

/-- How many of the first k bits are ones. -/
def cn (C : Nat) : Nat → Nat
  | 0 => 0
  | k + 1 => cn C k + (if C.testBit k then 1 else 0)
/-- Where the q-th one stands. -/
def kp (C q : Nat) : Nat := ((List.range 4).filter C.testBit).getD q 0
theorem kp_cn : ∀ C, C < 16 → ∀ j, j < 4 → C.testBit j = true → kp C (cn C j) = j := by decide +kernel
theorem kp_lt : ∀ C, C < 16 → ∀ q, q < 4 → q < cn C 4 → kp C q < 4 ∧ C.testBit (kp C q) = true ∧ cn C (kp C q) = q := by decide +kernel
theorem cn_le (C : Nat) : ∀ k, cn C k ≤ k
  | 0 => Nat.le_refl 0
  | k + 1 => by have := cn_le C k; unfold cn; split <;> omega
theorem cn_t {C k : Nat} (h : C.testBit k = true) : cn C (k + 1) = cn C k + 1 := by rw [cn, if_pos h]
theorem cn_f {C k : Nat} (h : C.testBit k = false) : cn C (k + 1) = cn C k := by rw [cn, h]; rfl
theorem cn_mono (C : Nat) {j : Nat} : ∀ k, j ≤ k → cn C j ≤ cn C k
  | 0, h => by rw [show j = 0 by omega]; exact Nat.le_refl _
  | k + 1, h => by
    rcases Nat.lt_or_ge j (k + 1) with h1 | h1
    · exact Nat.le_trans (cn_mono C k (show j ≤ k by omega)) (Nat.le_add_right _ _)
    · rw [show j = k + 1 by omega]; exact Nat.le_refl _

structure RkSt where
  E : Nat → Nat → UInt8
  s : Nat → Nat
  r : Nat
/-- How many rows from r on have 0 in a column, one after the other. -/
def gpC (L : Nat) (E : Nat → Nat → UInt8) (s : Nat → Nat) (r j : Nat) : Nat := skip (fun p => decide (p < L) && E (s p) j == 0) 8 r
theorem gp_go {L : Nat} {E : Nat → Nat → UInt8} {s : Nat → Nat} {r j i : Nat} (h : i < gpC L E s r j) : r + i < L ∧ (E (s (r + i)) j == 0) = true := by
  have := skip_go _ _ _ h
  rwa [Bool.and_eq_true, decide_eq_true_eq] at this
theorem gp_le {L : Nat} {E : Nat → Nat → UInt8} {s : Nat → Nat} {r j : Nat} (hr : r ≤ L) : r + gpC L E s r j ≤ L := by
  rcases Nat.eq_zero_or_pos (gpC L E s r j) with h | h
  · omega
  · have := (gp_go (i := gpC L E s r j - 1) (L := L) (E := E) (s := s) (r := r) (j := j) (by omega)).1
    omega
theorem gp_end {L : Nat} {E : Nat → Nat → UInt8} {s : Nat → Nat} {r j : Nat} (hr : r ≤ L) (hL : L ≤ 4) (h : r + gpC L E s r j ≠ L) : (E (s (r + gpC L E s r j)) j == 0) = false := by
  have h1 := gp_le (L := L) (E := E) (s := s) (r := r) (j := j) hr
  have hlt : gpC L E s r j < 8 := by omega
  have := skip_end (p := fun p => decide (p < L) && E (s p) j == 0) 8 r hlt
  have h2 : (decide (r + gpC L E s r j < L) && E (s (r + gpC L E s r j)) j == 0) = false := this
  rw [decide_eq_true (by omega), Bool.true_and] at h2
  exact h2
/-- Two rows exchanged. -/
def swS (s : Nat → Nat) (i k : Nat) : Nat → Nat := upd (upd s i (s k)) k (s i)
theorem swS_at (s : Nat → Nat) (i k : Nat) : swS s i k k = s i := by unfold swS upd; rw [if_pos rfl]
/-- A row less a multiple of another. -/
def rowN (m : Nat) (f : UInt8) (x y : Nat → UInt8) : Nat → UInt8 := fun c => x c ^^^ tm m f (y c)
/-- The rows behind r, t of them reduced. -/
def elE (m : Nat) (s : Nat → Nat) (r j : Nat) (v : UInt8) (E : Nat → Nat → UInt8) : Nat → Nat → Nat → UInt8
  | 0 => E
  | t + 1 => upd (elE m s r j v E t) (s (r + 1 + t)) (rowN m (tm m (elE m s r j v E t (s (r + 1 + t)) j) v) (elE m s r j v E t (s (r + 1 + t))) (elE m s r j v E t (s r)))
def gstep (m L j : Nat) (S : RkSt) : RkSt :=
  if S.r + gpC L S.E S.s S.r j = L then S
  else ⟨elE m (swS S.s (S.r + gpC L S.E S.s S.r j) S.r) S.r j (inv m (S.E (S.s (S.r + gpC L S.E S.s S.r j)) j)) S.E (L - (S.r + 1)), swS S.s (S.r + gpC L S.E S.s S.r j) S.r, S.r + 1⟩
theorem gstep_no {m L j : Nat} {S : RkSt} (h : S.r + gpC L S.E S.s S.r j = L) : gstep m L j S = S := if_pos h
theorem gstep_yes {m L j : Nat} {S : RkSt} (h : S.r + gpC L S.E S.s S.r j ≠ L) : gstep m L j S = ⟨elE m (swS S.s (S.r + gpC L S.E S.s S.r j) S.r) S.r j (inv m (S.E (S.s (S.r + gpC L S.E S.s S.r j)) j)) S.E (L - (S.r + 1)), swS S.s (S.r + gpC L S.E S.s S.r j) S.r, S.r + 1⟩ := if_neg h
/-- A permutation of the rows. -/
structure Pm (L : Nat) (s : Nat → Nat) : Prop where
  lt : ∀ p, p < L → s p < L
  inj : ∀ p q, p < L → q < L → s p = s q → p = q
theorem Pm_id (L : Nat) : Pm L fun p => p := ⟨fun _ h => h, fun _ _ _ _ h => h⟩
theorem swS_eq (s : Nat → Nat) (i k p : Nat) : swS s i k p = s (if p = k then i else if p = i then k else p) := by
  unfold swS upd
  by_cases h1 : p = k
  · rw [if_pos h1, if_pos h1]
  · rw [if_neg h1, if_neg h1]
    by_cases h2 : p = i
    · rw [if_pos h2, if_pos h2]
    · rw [if_neg h2, if_neg h2]
theorem Pm_sw {L : Nat} {s : Nat → Nat} (h : Pm L s) {i k : Nat} (hi : i < L) (hk : k < L) : Pm L (swS s i k) := by
  have hl : ∀ p, p < L → (if p = k then i else if p = i then k else p) < L := fun p hp => by
    split
    · exact hi
    · split
      · exact hk
      · exact hp
  refine ⟨fun p hp => by rw [swS_eq]; exact h.lt _ (hl p hp), fun p q hp hq e => ?_⟩
  rw [swS_eq, swS_eq] at e
  have := h.inj _ _ (hl p hp) (hl q hq) e
  by_cases p1 : p = k
  · by_cases q1 : q = k
    · omega
    · rw [if_pos p1, if_neg q1] at this
      by_cases q2 : q = i
      · rw [if_pos q2] at this; omega
      · rw [if_neg q2] at this; omega
  · by_cases q1 : q = k
    · rw [if_neg p1, if_pos q1] at this
      by_cases p2 : p = i
      · rw [if_pos p2] at this; omega
      · rw [if_neg p2] at this; omega
    · rw [if_neg p1, if_neg q1] at this
      by_cases p2 : p = i <;> by_cases q2 : q = i
      · omega
      · rw [if_pos p2, if_neg q2] at this; omega
      · rw [if_neg p2, if_pos q2] at this; omega
      · rw [if_neg p2, if_neg q2] at this; exact this
theorem gstep_inv {m L j : Nat} {S : RkSt} (h : Pm L S.s) (hr : S.r ≤ L) : Pm L (gstep m L j S).s ∧ (gstep m L j S).r ≤ L := by
  by_cases hp : S.r + gpC L S.E S.s S.r j = L
  · rw [gstep_no hp]; exact ⟨h, hr⟩
  · have h1 := gp_le (L := L) (E := S.E) (s := S.s) (r := S.r) (j := j) hr
    rw [gstep_yes hp]
    exact ⟨Pm_sw h (by omega) (by omega), by show S.r + 1 ≤ L; omega⟩
/-- The columns of a mask, one after the other. -/
def rkS (m L C : Nat) (E : Nat → Nat → UInt8) : Nat → RkSt
  | 0 => ⟨E, fun p => p, 0⟩
  | j + 1 => if C.testBit j then gstep m L j (rkS m L C E j) else rkS m L C E j
theorem rkS_t {m L C j : Nat} {E : Nat → Nat → UInt8} (h : C.testBit j = true) : rkS m L C E (j + 1) = gstep m L j (rkS m L C E j) := by rw [rkS, if_pos h]
theorem rkS_f {m L C j : Nat} {E : Nat → Nat → UInt8} (h : C.testBit j = false) : rkS m L C E (j + 1) = rkS m L C E j := by rw [rkS, h]; rfl
theorem rkS_inv (m L C : Nat) (E : Nat → Nat → UInt8) : ∀ j, Pm L (rkS m L C E j).s ∧ (rkS m L C E j).r ≤ L
  | 0 => ⟨Pm_id L, Nat.zero_le _⟩
  | j + 1 => by
    have ih := rkS_inv m L C E j
    unfold rkS
    split
    · exact gstep_inv ih.1 ih.2
    · exact ih
/-- All columns, one after the other. -/
def rkI (m L : Nat) (E : Nat → Nat → UInt8) : Nat → RkSt
  | 0 => ⟨E, fun p => p, 0⟩
  | j + 1 => gstep m L j (rkI m L E j)
theorem rkI_inv (m L : Nat) (E : Nat → Nat → UInt8) : ∀ j, Pm L (rkI m L E j).s ∧ (rkI m L E j).r ≤ L
  | 0 => ⟨Pm_id L, Nat.zero_le _⟩
  | j + 1 => gstep_inv (rkI_inv m L E j).1 (rkI_inv m L E j).2
/-- The columns named anew. -/
def mapE (k : Nat → Nat) (S : RkSt) : RkSt := ⟨fun q c => S.E q (k c), S.s, S.r⟩
theorem elE_map (m : Nat) (k : Nat → Nat) (s : Nat → Nat) (r j : Nat) (v : UInt8) (E : Nat → Nat → UInt8) : ∀ t, elE m s r j v (fun q c => E q (k c)) t = fun q c => elE m s r (k j) v E t q (k c)
  | 0 => rfl
  | t + 1 => by
    rw [elE, elE_map m k s r j v E t]
    funext q c
    rw [elE]
    unfold upd
    by_cases h : q = s (r + 1 + t)
    · rw [if_pos h, if_pos h]; rfl
    · rw [if_neg h, if_neg h]
theorem gstep_map (m L : Nat) (k : Nat → Nat) (j : Nat) (S : RkSt) : gstep m L j (mapE k S) = mapE k (gstep m L (k j) S) := by
  have hc : gpC L (mapE k S).E (mapE k S).s (mapE k S).r j = gpC L S.E S.s S.r (k j) := rfl
  by_cases h : S.r + gpC L S.E S.s S.r (k j) = L
  · rw [gstep_no h, gstep_no (by rw [hc]; exact h)]
  · rw [gstep_yes h, gstep_yes (by rw [hc]; exact h), hc]
    show RkSt.mk (elE m _ _ j _ (fun q c => S.E q (k c)) _) _ _ = _
    rw [elE_map]
    rfl
theorem rk_eq {m L C : Nat} (hC : C < 16) (E : Nat → Nat → UInt8) : ∀ j, j ≤ 4 → rkI m L (fun q c => E q (kp C c)) (cn C j) = mapE (kp C) (rkS m L C E j)
  | 0, _ => rfl
  | j + 1, h => by
    have ih := rk_eq (m := m) (L := L) hC E j (by omega)
    cases hb : C.testBit j
    · rw [cn_f hb, rkS_f hb, ih]
    · rw [cn_t hb, rkS_t hb, rkI, ih, gstep_map, kp_cn C hC j (by omega) hb]
/-- The rows of a mask among those of a matrix. -/
def aOf (R : Nat) (a : Nat → UInt8) (E : Nat → Nat → UInt8) : Nat → UInt8 := fun n => if n < 16 ∧ R.testBit (n / 4) = true then E (cn R (n / 4)) (n % 4) else a n
def E0 (R : Nat) (a : Nat → UInt8) : Nat → Nat → UInt8 := fun q c => a (kp R q * 4 + c)
theorem aOf_start {R : Nat} (hR : R < 16) (a : Nat → UInt8) : aOf R a (E0 R a) = a := by
  funext n
  unfold aOf E0
  split
  · rename_i h
    rw [kp_cn R hR (n / 4) (by omega) h.2, Nat.div_add_mod' n 4]
  · rfl
theorem aOf_at {R : Nat} (hR : R < 16) {a : Nat → UInt8} {E : Nat → Nat → UInt8} {q c : Nat} (hq : q < cn R 4) (hc : c < 4) : aOf R a E (kp R q * 4 + c) = E q c := by
  have hl := cn_le R 4
  obtain ⟨h1, h2, h3⟩ := kp_lt R hR q (by omega) hq
  unfold aOf
  rw [show (kp R q * 4 + c) / 4 = kp R q by omega, show (kp R q * 4 + c) % 4 = c by omega, if_pos ⟨by omega, h2⟩, h3]
theorem aOf_set {R : Nat} (hR : R < 16) {a : Nat → UInt8} {E : Nat → Nat → UInt8} {q c : Nat} (hq : q < cn R 4) (hc : c < 4) (x : UInt8) : upd (aOf R a E) (kp R q * 4 + c) x = aOf R a (upd E q (upd (E q) c x)) := by
  have hl := cn_le R 4
  obtain ⟨h1, h2, h3⟩ := kp_lt R hR q (by omega) hq
  funext n
  show (if n = kp R q * 4 + c then x else aOf R a E n) = aOf R a (upd E q (upd (E q) c x)) n
  have key : ∀ E', aOf R a E' n = if n < 16 ∧ R.testBit (n / 4) = true then E' (cn R (n / 4)) (n % 4) else a n := fun _ => rfl
  rw [key, key]
  by_cases hn : n = kp R q * 4 + c
  · rw [if_pos hn, show n / 4 = kp R q by omega, if_pos ⟨by omega, h2⟩, h3]
    unfold upd
    rw [if_pos rfl, if_pos (by omega)]
  · rw [if_neg hn]
    by_cases h : n < 16 ∧ R.testBit (n / 4) = true
    · rw [if_pos h, if_pos h]
      unfold upd
      by_cases h4 : cn R (n / 4) = q
      · have h5 : n / 4 = kp R q := by rw [← h4, kp_cn R hR _ (by omega) h.2]
        rw [if_pos h4, if_neg (by omega), h4]
      · rw [if_neg h4]
    · rw [if_neg h, if_neg h]
theorem upd2_pre {E : Nat → Nat → UInt8} {q k : Nat} {g x : Nat → UInt8} : upd (upd E q (pre k g x)) q (upd (upd E q (pre k g x) q) k (g k)) = upd E q (pre (k + 1) g x) := by
  rw [upd_upd, show upd E q (pre k g x) q = pre k g x from if_pos rfl, upd_pre]
end Go.Proofs.YtalbdgkbinndlaaDoor
/- Dice of the laws: as the draws' source. -/
namespace Go.Proofs.YtalbdgkbinndlaaDoor
set_option linter.unusedSimpArgs false
set_option linter.unusedVariables false
set_option maxRecDepth 20000
set_option maxHeartbeats 1000000
open Go.Abs

theorem below_ex {h : List Blk} {b : Nat} {cv : Value} {k : Blk} (hb : h[b]? = some k) (hk : Src h b cv k) {N : Nat} (hN : 0 < N) (hN2 : N ≤ 1125899906842624) :
    ∃ (x : Nat) (k' : Blk), x < N ∧ Src h b cv k' ∧ AC Tryd.prog 9 [pt b 0, .int .i64 N] h (.int .i64 x) (h.set b k') := by
  obtain ⟨a, hs, n, f, rfl, h1, h2, c⟩ := hk
  have hbl := blt hb
  obtain ⟨q, hq, e⟩ := and24 ((nxH hs).fdiv (2 ^ (min 33 64)))
  cases c with
  | nil =>
    refine ⟨q % N, ⟨Sr (.slice none 0 0) a (nxH hs), true⟩, Nat.mod_lt _ hN, ⟨a, _, 0, f, rfl, h1, h2, .nil f⟩, ?_⟩
    have hz : decide (N < 1) = false := decide_eq_false (by omega)
    have ha : decide (a < 0) = false := decide_eq_false (by omega)
    (refine AC_begin (fun _ _ => Tryd.call9 _ _) Tryd.func9 rfl Tryd.ntmps9 Tryd.results9 (fun hwf => ?_); simp only [List.length_cons, List.length_nil, Nat.reduceAdd, Nat.reduceSub, List.replicate, List.cons_append, List.nil_append])
    (repeat (first | ((first | (refine And.intro ?_ ?_; focus exact PLA) | refine WA_seq (WA_region ?_) | refine WA_region ?_ | refine WA_exit ?_); try simp (maxSteps := 1000000) (disch := first | omega | rfl | decide | (simp only [List.length_cons, List.length_nil, List.length_append, LV] <;> omega)) only [go_sem, Nat.reduceAdd, Int.reduceAdd, Int.reduceSub, Int.reduceMul, Bool.not_true, Bool.not_false, hb, look_set hbl, List.set_set, hz, ha, show IntKind.u64.wrap (IntKind.u64.wrap (hs * 6364136223846793005) + 1442695040888963407) = nxH hs from rfl, e]) | (refine WA_seq (WA_draw (id := 5) mixedOk (by kernel_rfl) ?_); simp (maxSteps := 1000000) (disch := first | omega | rfl | decide | (simp only [List.length_cons, List.length_nil, List.length_append, LV] <;> omega)) only [go_sem, Nat.reduceAdd, Int.reduceAdd, Int.reduceSub, Int.reduceMul, Bool.not_true, Bool.not_false, hb, look_set hbl, List.set_set, hz, ha, show IntKind.u64.wrap (IntKind.u64.wrap (hs * 6364136223846793005) + 1442695040888963407) = nxH hs from rfl, e]) | (refine WA_draw (id := 5) mixedOk (by kernel_rfl) ?_; simp (maxSteps := 1000000) (disch := first | omega | rfl | decide | (simp only [List.length_cons, List.length_nil, List.length_append, LV] <;> omega)) only [go_sem, Nat.reduceAdd, Int.reduceAdd, Int.reduceSub, Int.reduceMul, Bool.not_true, Bool.not_false, hb, look_set hbl, List.set_set, hz, ha, show IntKind.u64.wrap (IntKind.u64.wrap (hs * 6364136223846793005) + 1442695040888963407) = nxH hs from rfl, e]) | (refine WA_seq (WA_draw (id := 6) mixedOk (by kernel_rfl) ?_); simp (maxSteps := 1000000) (disch := first | omega | rfl | decide | (simp only [List.length_cons, List.length_nil, List.length_append, LV] <;> omega)) only [go_sem, Nat.reduceAdd, Int.reduceAdd, Int.reduceSub, Int.reduceMul, Bool.not_true, Bool.not_false, hb, look_set hbl, List.set_set, hz, ha, show IntKind.u64.wrap (IntKind.u64.wrap (hs * 6364136223846793005) + 1442695040888963407) = nxH hs from rfl, e]) | (refine WA_draw (id := 6) mixedOk (by kernel_rfl) ?_; simp (maxSteps := 1000000) (disch := first | omega | rfl | decide | (simp only [List.length_cons, List.length_nil, List.length_append, LV] <;> omega)) only [go_sem, Nat.reduceAdd, Int.reduceAdd, Int.reduceSub, Int.reduceMul, Bool.not_true, Bool.not_false, hb, look_set hbl, List.set_set, hz, ha, show IntKind.u64.wrap (IntKind.u64.wrap (hs * 6364136223846793005) + 1442695040888963407) = nxH hs from rfl, e]) | refine WA_seq ?_ | refine WA_block ?_ | (refine WA_skip ?_; try simp only [go_sem]) | (refine WA_ret ?_; try simp only [go_sem]) | refine WA_ct rfl ?_ | refine WA_cf rfl ?_))
    (exact sR0)
  | sl _ hc hne =>
    have hc2 := fun (x : Blk) => set_at (x := x) hc hne.symm
    have hz : decide (N < 1) = false := decide_eq_false (by omega)
    by_cases ha : a < n
    · have hf := u8_lt (f a)
      refine ⟨(q + (f a).toNat) % N, ⟨Sr _ ((a + 1 : Nat) : Int) (nxH hs), true⟩, Nat.mod_lt _ hN, ⟨a + 1, _, n, f, rfl, by omega, h2, .sl f hc hne⟩, ?_⟩
      (refine AC_begin (fun _ _ => Tryd.call9 _ _) Tryd.func9 rfl Tryd.ntmps9 Tryd.results9 (fun hwf => ?_); simp only [List.length_cons, List.length_nil, Nat.reduceAdd, Nat.reduceSub, List.replicate, List.cons_append, List.nil_append])
      (repeat (first | ((first | (refine And.intro ?_ ?_; focus exact PLA) | refine WA_seq (WA_region ?_) | refine WA_region ?_ | refine WA_exit ?_); try simp (maxSteps := 1000000) (disch := first | omega | rfl | decide | (simp only [List.length_cons, List.length_nil, List.length_append, LV] <;> omega)) only [go_sem, Nat.reduceAdd, Int.reduceAdd, Int.reduceSub, Int.reduceMul, Bool.not_true, Bool.not_false, hb, look_set hbl, List.set_set, hc2, hz, decide_eq_true ha, show IntKind.u64.wrap (IntKind.u64.wrap (hs * 6364136223846793005) + 1442695040888963407) = nxH hs from rfl, e]) | (refine WA_seq (WA_draw (id := 5) mixedOk (by kernel_rfl) ?_); simp (maxSteps := 1000000) (disch := first | omega | rfl | decide | (simp only [List.length_cons, List.length_nil, List.length_append, LV] <;> omega)) only [go_sem, Nat.reduceAdd, Int.reduceAdd, Int.reduceSub, Int.reduceMul, Bool.not_true, Bool.not_false, hb, look_set hbl, List.set_set, hc2, hz, decide_eq_true ha, show IntKind.u64.wrap (IntKind.u64.wrap (hs * 6364136223846793005) + 1442695040888963407) = nxH hs from rfl, e]) | (refine WA_draw (id := 5) mixedOk (by kernel_rfl) ?_; simp (maxSteps := 1000000) (disch := first | omega | rfl | decide | (simp only [List.length_cons, List.length_nil, List.length_append, LV] <;> omega)) only [go_sem, Nat.reduceAdd, Int.reduceAdd, Int.reduceSub, Int.reduceMul, Bool.not_true, Bool.not_false, hb, look_set hbl, List.set_set, hc2, hz, decide_eq_true ha, show IntKind.u64.wrap (IntKind.u64.wrap (hs * 6364136223846793005) + 1442695040888963407) = nxH hs from rfl, e]) | (refine WA_seq (WA_draw (id := 6) mixedOk (by kernel_rfl) ?_); simp (maxSteps := 1000000) (disch := first | omega | rfl | decide | (simp only [List.length_cons, List.length_nil, List.length_append, LV] <;> omega)) only [go_sem, Nat.reduceAdd, Int.reduceAdd, Int.reduceSub, Int.reduceMul, Bool.not_true, Bool.not_false, hb, look_set hbl, List.set_set, hc2, hz, decide_eq_true ha, show IntKind.u64.wrap (IntKind.u64.wrap (hs * 6364136223846793005) + 1442695040888963407) = nxH hs from rfl, e]) | (refine WA_draw (id := 6) mixedOk (by kernel_rfl) ?_; simp (maxSteps := 1000000) (disch := first | omega | rfl | decide | (simp only [List.length_cons, List.length_nil, List.length_append, LV] <;> omega)) only [go_sem, Nat.reduceAdd, Int.reduceAdd, Int.reduceSub, Int.reduceMul, Bool.not_true, Bool.not_false, hb, look_set hbl, List.set_set, hc2, hz, decide_eq_true ha, show IntKind.u64.wrap (IntKind.u64.wrap (hs * 6364136223846793005) + 1442695040888963407) = nxH hs from rfl, e]) | refine WA_seq ?_ | refine WA_block ?_ | (refine WA_skip ?_; try simp only [go_sem]) | (refine WA_ret ?_; try simp only [go_sem]) | refine WA_ct rfl ?_ | refine WA_cf rfl ?_))
      (exact sR0)
    · refine ⟨q % N, ⟨Sr _ a (nxH hs), true⟩, Nat.mod_lt _ hN, ⟨a, _, n, f, rfl, h1, h2, .sl f hc hne⟩, ?_⟩
      (refine AC_begin (fun _ _ => Tryd.call9 _ _) Tryd.func9 rfl Tryd.ntmps9 Tryd.results9 (fun hwf => ?_); simp only [List.length_cons, List.length_nil, Nat.reduceAdd, Nat.reduceSub, List.replicate, List.cons_append, List.nil_append])
      (repeat (first | ((first | (refine And.intro ?_ ?_; focus exact PLA) | refine WA_seq (WA_region ?_) | refine WA_region ?_ | refine WA_exit ?_); try simp (maxSteps := 1000000) (disch := first | omega | rfl | decide | (simp only [List.length_cons, List.length_nil, List.length_append, LV] <;> omega)) only [go_sem, Nat.reduceAdd, Int.reduceAdd, Int.reduceSub, Int.reduceMul, Bool.not_true, Bool.not_false, hb, look_set hbl, List.set_set, hz, decide_eq_false ha, show IntKind.u64.wrap (IntKind.u64.wrap (hs * 6364136223846793005) + 1442695040888963407) = nxH hs from rfl, e]) | (refine WA_seq (WA_draw (id := 5) mixedOk (by kernel_rfl) ?_); simp (maxSteps := 1000000) (disch := first | omega | rfl | decide | (simp only [List.length_cons, List.length_nil, List.length_append, LV] <;> omega)) only [go_sem, Nat.reduceAdd, Int.reduceAdd, Int.reduceSub, Int.reduceMul, Bool.not_true, Bool.not_false, hb, look_set hbl, List.set_set, hz, decide_eq_false ha, show IntKind.u64.wrap (IntKind.u64.wrap (hs * 6364136223846793005) + 1442695040888963407) = nxH hs from rfl, e]) | (refine WA_draw (id := 5) mixedOk (by kernel_rfl) ?_; simp (maxSteps := 1000000) (disch := first | omega | rfl | decide | (simp only [List.length_cons, List.length_nil, List.length_append, LV] <;> omega)) only [go_sem, Nat.reduceAdd, Int.reduceAdd, Int.reduceSub, Int.reduceMul, Bool.not_true, Bool.not_false, hb, look_set hbl, List.set_set, hz, decide_eq_false ha, show IntKind.u64.wrap (IntKind.u64.wrap (hs * 6364136223846793005) + 1442695040888963407) = nxH hs from rfl, e]) | (refine WA_seq (WA_draw (id := 6) mixedOk (by kernel_rfl) ?_); simp (maxSteps := 1000000) (disch := first | omega | rfl | decide | (simp only [List.length_cons, List.length_nil, List.length_append, LV] <;> omega)) only [go_sem, Nat.reduceAdd, Int.reduceAdd, Int.reduceSub, Int.reduceMul, Bool.not_true, Bool.not_false, hb, look_set hbl, List.set_set, hz, decide_eq_false ha, show IntKind.u64.wrap (IntKind.u64.wrap (hs * 6364136223846793005) + 1442695040888963407) = nxH hs from rfl, e]) | (refine WA_draw (id := 6) mixedOk (by kernel_rfl) ?_; simp (maxSteps := 1000000) (disch := first | omega | rfl | decide | (simp only [List.length_cons, List.length_nil, List.length_append, LV] <;> omega)) only [go_sem, Nat.reduceAdd, Int.reduceAdd, Int.reduceSub, Int.reduceMul, Bool.not_true, Bool.not_false, hb, look_set hbl, List.set_set, hz, decide_eq_false ha, show IntKind.u64.wrap (IntKind.u64.wrap (hs * 6364136223846793005) + 1442695040888963407) = nxH hs from rfl, e]) | refine WA_seq ?_ | refine WA_block ?_ | (refine WA_skip ?_; try simp only [go_sem]) | (refine WA_ret ?_; try simp only [go_sem]) | refine WA_ct rfl ?_ | refine WA_cf rfl ?_))
      (exact sR0)
theorem below_aft {h : List Blk} {b : Nat} {cv : Value} (s : SrcAt h b cv) {N : Nat} (hN : 0 < N) (hN2 : N ≤ 1125899906842624) :
    ∃ (x : Nat) (h' : List Blk), x < N ∧ Aft h h' b cv ∧ AC Tryd.prog 9 [pt b 0, .int .i64 N] h (.int .i64 x) h' := by
  obtain ⟨k, hb, hk⟩ := s
  obtain ⟨x, k', hx, hk', hc⟩ := below_ex hb hk hN hN2
  exact ⟨x, _, hx, aft_set (blt hb) hk', hc⟩

/-- The state of dice after k bytes. -/
def dcH (s0 : Int) (f : Nat → UInt8) : Nat → Int
  | 0 => s0
  | k + 1 => IntKind.u64.wrap (IntKind.u64.wrap (IntKind.u64.wrap (dcH s0 f k * 1099511628211) + ((f k).toNat : Int)) + 5)
theorem roll_aft {h : List Blk} {cv : Value} (c : Cv h cv) (sd : Nat) (hsd : sd ≤ 1000000) : ∃ h', SrcAt h' h.length cv ∧ (∃ L, h' = h ++ L) ∧ AC Tryd.prog 8 [cv, .int .u64 sd] h (pt h.length 0) h' := by
  cases c with
  | nil =>
    refine ⟨h ++ [⟨Sr (.slice none 0 0) ((0 : Nat) : Int) ((sd * 6907 + 0 : Nat) : Int), true⟩], ⟨⟨Sr (.slice none 0 0) ((0 : Nat) : Int) ((sd * 6907 + 0 : Nat) : Int), true⟩, by simp, 0, _, 0, fun _ => 0, rfl, Nat.le_refl _, by omega, .nil _⟩, ⟨_, rfl⟩, ?_⟩
    (refine AC_begin (fun _ _ => Tryd.call8 _ _) Tryd.func8 rfl Tryd.ntmps8 Tryd.results8 (fun hwf => ?_); simp only [List.length_cons, List.length_nil, Nat.reduceAdd, Nat.reduceSub, List.replicate, List.cons_append, List.nil_append])
    (repeat (first | ((first | (refine And.intro ?_ ?_; focus exact PLA) | refine WA_seq (WA_region ?_) | refine WA_region ?_ | refine WA_exit ?_); try simp (maxSteps := 1000000) (disch := first | omega | rfl | decide | (simp only [List.length_cons, List.length_nil, List.length_append, LV] <;> omega)) only [go_sem, Nat.reduceAdd, Int.reduceAdd, Int.reduceSub, Int.reduceMul, Bool.not_true, Bool.not_false]) | (refine (WA_rb (id := 5) [15] (SubM.refl _) mixedOk ?_); simp only [List.size_toArray, List.length_cons, List.length_nil]; (repeat (first | ((first | (refine And.intro ?_ ?_; focus exact PLA) | refine RB_take false [0, 1, 2, 3, 6, 7, 8] 9 (by rfl) (by kernel_rfl) (by decide) (by decide +kernel) ?_ | refine RB_take true [4, 9] 7 (by rfl) (by kernel_rfl) (by decide) (by decide +kernel) ?_ | refine RB_take false [5, 10, 11, 12, 13, 14] 1 (by rfl) (by kernel_rfl) (by decide) (by decide +kernel) ?_ | refine RB_exec 15 _ (by rfl) (by decide +kernel) (by decide +kernel) ?_ | refine RB_done (by decide +kernel) ?_); try simp (maxSteps := 1000000) (disch := first | omega | rfl | decide | (simp only [List.length_cons, List.length_nil, List.length_append, LV] <;> omega)) only [go_sem, Nat.reduceAdd, Int.reduceAdd, Int.reduceSub, Int.reduceMul, Bool.not_true, Bool.not_false])))) | refine WA_seq ?_ | refine WA_block ?_ | (refine WA_skip ?_; try simp only [go_sem]) | (refine WA_ret ?_; try simp only [go_sem]) | refine WA_ct rfl ?_ | refine WA_cf rfl ?_))
    refine WA_forP (fun k => [(6, .int .i64 k), (16, J), (17, J), (18, J), (19, J), (20, J), (21, J), (22, J), (23, J), (24, J), (25, J), (26, J), (27, J), (28, J), (29, J), (30, J), (31, J), (32, J), (33, J), (34, J), (35, J), (36, J)]) (fun k => []) (0) ?_ ?_ ?_ <;> (try simp only [patT_cons, patT_nil, patL_cons, patL_nil, list_set_zero, list_set_succ, blk_set_zero, blk_set_succ])
    · (exact sS0)
    · intro k hk
      omega
    · (refine sN (And.intro (show decide ((0 : Nat) < 0) = false from rfl) (show decide ((0 : Int) < 0) = false from rfl)) ?_)
      (exact sR0)
  | @sl bc n f rc hb hn =>
    have hbl := blt hb
    refine ⟨h ++ [⟨Sr (sl bc 0 n 1) ((0 : Nat) : Int) (dcH ((sd * 6907 + n : Nat) : Int) f n), true⟩], ⟨⟨Sr (sl bc 0 n 1) ((0 : Nat) : Int) (dcH ((sd * 6907 + n : Nat) : Int) f n), true⟩, by simp, 0, _, n, f, rfl, Nat.zero_le _, hn, .sl f (look_old hb _) (by omega)⟩, ⟨_, rfl⟩, ?_⟩
    (refine AC_begin (fun _ _ => Tryd.call8 _ _) Tryd.func8 rfl Tryd.ntmps8 Tryd.results8 (fun hwf => ?_); simp only [List.length_cons, List.length_nil, Nat.reduceAdd, Nat.reduceSub, List.replicate, List.cons_append, List.nil_append])
    (repeat (first | ((first | (refine And.intro ?_ ?_; focus exact PLA) | refine WA_seq (WA_region ?_) | refine WA_region ?_ | refine WA_exit ?_); try simp (maxSteps := 1000000) (disch := first | omega | rfl | decide | (simp only [List.length_cons, List.length_nil, List.length_append, LV] <;> omega)) only [go_sem, Nat.reduceAdd, Int.reduceAdd, Int.reduceSub, Int.reduceMul, Bool.not_true, Bool.not_false]) | (refine (WA_rb (id := 5) [15] (SubM.refl _) mixedOk ?_); simp only [List.size_toArray, List.length_cons, List.length_nil]; (repeat (first | ((first | (refine And.intro ?_ ?_; focus exact PLA) | refine RB_take false [0, 1, 2, 3, 6, 7, 8] 9 (by rfl) (by kernel_rfl) (by decide) (by decide +kernel) ?_ | refine RB_take true [4, 9] 7 (by rfl) (by kernel_rfl) (by decide) (by decide +kernel) ?_ | refine RB_take false [5, 10, 11, 12, 13, 14] 1 (by rfl) (by kernel_rfl) (by decide) (by decide +kernel) ?_ | refine RB_exec 15 _ (by rfl) (by decide +kernel) (by decide +kernel) ?_ | refine RB_done (by decide +kernel) ?_); try simp (maxSteps := 1000000) (disch := first | omega | rfl | decide | (simp only [List.length_cons, List.length_nil, List.length_append, LV] <;> omega)) only [go_sem, Nat.reduceAdd, Int.reduceAdd, Int.reduceSub, Int.reduceMul, Bool.not_true, Bool.not_false])))) | refine WA_seq ?_ | refine WA_block ?_ | (refine WA_skip ?_; try simp only [go_sem]) | (refine WA_ret ?_; try simp only [go_sem]) | refine WA_ct rfl ?_ | refine WA_cf rfl ?_))
    refine WA_forP (fun k => [(6, .int .i64 k), (16, J), (17, J), (18, J), (19, J), (20, J), (21, J), (22, J), (23, J), (24, J), (25, J), (26, J), (27, J), (28, J), (29, J), (30, J), (31, J), (32, J), (33, J), (34, J), (35, J), (36, J)]) (fun k => [(0, ⟨Sr (sl bc 0 n 1) ((0 : Nat) : Int) (dcH ((sd * 6907 + n : Nat) : Int) f k), true⟩)]) (n) ?_ ?_ ?_ <;> (try simp only [patT_cons, patT_nil, patL_cons, patL_nil, list_set_zero, list_set_succ, blk_set_zero, blk_set_succ])
    · (exact sS0)
    · intro k hk
      have hx := u8_lt (f k)
      (repeat (first | ((first | (refine And.intro ?_ ?_; focus exact PLA) | refine WA_seq (WA_region ?_) | refine WA_region ?_ | refine WA_exit ?_); try simp (maxSteps := 1000000) (disch := first | omega | rfl | decide | (simp only [List.length_cons, List.length_nil, List.length_append, LV] <;> omega)) only [go_sem, Nat.reduceAdd, Int.reduceAdd, Int.reduceSub, Int.reduceMul, Bool.not_true, Bool.not_false, look_old hb, decide_eq_true hk, show IntKind.u64.wrap (IntKind.u64.wrap (IntKind.u64.wrap (dcH ((sd * 6907 + n : Nat) : Int) f k * 1099511628211) + ((f k).toNat : Int)) + 5) = dcH ((sd * 6907 + n : Nat) : Int) f (k + 1) from rfl]) | (refine (WA_rb (id := 5) [15] (SubM.refl _) mixedOk ?_); simp only [List.size_toArray, List.length_cons, List.length_nil]; (repeat (first | ((first | (refine And.intro ?_ ?_; focus exact PLA) | refine RB_take false [0, 1, 2, 3, 6, 7, 8] 9 (by rfl) (by kernel_rfl) (by decide) (by decide +kernel) ?_ | refine RB_take true [4, 9] 7 (by rfl) (by kernel_rfl) (by decide) (by decide +kernel) ?_ | refine RB_take false [5, 10, 11, 12, 13, 14] 1 (by rfl) (by kernel_rfl) (by decide) (by decide +kernel) ?_ | refine RB_exec 15 _ (by rfl) (by decide +kernel) (by decide +kernel) ?_ | refine RB_done (by decide +kernel) ?_); try simp (maxSteps := 1000000) (disch := first | omega | rfl | decide | (simp only [List.length_cons, List.length_nil, List.length_append, LV] <;> omega)) only [go_sem, Nat.reduceAdd, Int.reduceAdd, Int.reduceSub, Int.reduceMul, Bool.not_true, Bool.not_false, look_old hb, decide_eq_true hk, show IntKind.u64.wrap (IntKind.u64.wrap (IntKind.u64.wrap (dcH ((sd * 6907 + n : Nat) : Int) f k * 1099511628211) + ((f k).toNat : Int)) + 5) = dcH ((sd * 6907 + n : Nat) : Int) f (k + 1) from rfl])))) | refine WA_seq ?_ | refine WA_block ?_ | (refine WA_skip ?_; try simp only [go_sem]) | (refine WA_ret ?_; try simp only [go_sem]) | refine WA_ct rfl ?_ | refine WA_cf rfl ?_))
      (exact sS0)
    · (refine sN (show decide (n < n) = false from decide_eq_false (Nat.lt_irrefl n)) ?_)
      (exact sR0)

end Go.Proofs.YtalbdgkbinndlaaDoor
/- Cycles of places: their lengths sum to 16. Plain. -/
namespace Go.Proofs.YtalbdgkbinndlaaDoor
set_option linter.unusedSimpArgs false
set_option linter.unusedVariables false
set_option maxRecDepth 20000
set_option maxHeartbeats 1000000
open Go.Abs

/-- The k-th place of a walk, and what is met then. -/
def cyI (p : Nat → UInt8) (i : Nat) : Nat → Nat
  | 0 => i
  | k + 1 => (p (cyI p i k)).toNat
def cyD (p : Nat → UInt8) (d : Nat → Bool) (i : Nat) : Nat → (Nat → Bool)
  | 0 => d
  | k + 1 => upd (cyD p d i k) (cyI p i k) true
/-- How long the walk is. -/
def cyN (p : Nat → UInt8) (d : Nat → Bool) (i : Nat) : Nat := skip (fun k => !(cyD p d i k (cyI p i k))) 17 0
def cyL (p : Nat → UInt8) (i k : Nat) : List Int := (List.range k).map fun j => ((cyI p i j : Nat) : Int)
section
variable {p : Nat → UInt8} (hp : ∀ i, i < 16 → (p i).toNat < 16)
include hp
end
/-- What is met, and the cycles, after the first s starts. -/
def cyR (p : Nat → UInt8) : Nat → (Nat → Bool) × List (List Int)
  | 0 => (fun _ => false, [])
  | s + 1 => (cyD p (cyR p s).1 s (cyN p (cyR p s).1 s), if cyN p (cyR p s).1 s = 0 then (cyR p s).2 else (cyR p s).2 ++ [cyL p s (cyN p (cyR p s).1 s)])
/-- The number of cycles after s starts, and the j-th cycle. -/
def cyC (p : Nat → UInt8) (s : Nat) : Nat := (cyR p s).2.length
def cyRow (p : Nat → UInt8) (j : Nat) : List Int := (cyR p 16).2.getD j []
section
variable {p : Nat → UInt8} (hp : ∀ i, i < 16 → (p i).toNat < 16)
include hp
end
end Go.Proofs.YtalbdgkbinndlaaDoor
