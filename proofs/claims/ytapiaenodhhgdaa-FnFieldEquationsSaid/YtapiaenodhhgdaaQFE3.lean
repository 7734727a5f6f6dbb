/- FnFieldEquations is proved: whatever the input, the law returns true and its arguments read as they did. No condition. -/
import Derived.Test.YtapiaenodhhgdaaQFEH
import Derived.Test.YtapiaenodhhgdaaQFE0
import Derived.Test.YtapiaenodhhgdaaQFE1
import Derived.Test.YtapiaenodhhgdaaQFE2
/- Draws for the law on matrices. -/
namespace Go.Proofs.Ytapiaenodhhgdaa
set_option linter.unusedSimpArgs false
set_option linter.unusedVariables false
set_option maxRecDepth 20000
set_option maxHeartbeats 1000000
open Go.Abs

/-- Behind a region and the test that follows it the state is told. -/
theorem WA_mid2 {P : Program} {n0 : Nat} {a b c : Code} {Q Q' Q'' : Exit → AS → Prop} {t : List Value} {H : List Blk} (ps : List (Nat × Value)) (H' : List Blk)
    (h : WA P n0 a (Then (WA P n0 b (Then (fun s' => Drop n0 s' ⟨patT t ps, H'⟩) Q')) Q'') ⟨t, H⟩) (h2 : WA P n0 c Q ⟨patT t ps, H'⟩) : WA P n0 a (Then (WA P n0 b (Then (WA P n0 c Q) Q')) Q'') ⟨t, H⟩ :=
  WA_mono h fun e s' hq => by
    cases e <;> first
      | exact WA_mono hq fun e s'' hd => by cases e <;> first | exact WA_pre hd h2 | exact hd
      | exact hq
end Go.Proofs.Ytapiaenodhhgdaa
/- Draws of lists of bytes. -/
namespace Go.Proofs.Ytapiaenodhhgdaa
set_option linter.unusedSimpArgs false
set_option linter.unusedVariables false
set_option maxRecDepth 20000
set_option maxHeartbeats 1000000
open Go.Abs

theorem Bs_snoc2 (n : Nat) (f : Nat → UInt8) (x : UInt8) : Bs n f ++ [B x] = Bs (n + 1) (upd f n x) := by
  unfold Bs
  rw [List.range_succ, List.map_append]
  congr 1
  · refine List.map_congr_left fun i hi => ?_
    have := List.mem_range.1 hi
    unfold upd; rw [if_neg (by omega)]
  · show [_] = [B (upd f n x n)]
    unfold upd; rw [if_pos rfl]
/-- A list of bytes that grows. -/
structure ByD where
  M : List Blk
  b : Nat
  v : Nat → UInt8
set_option maxHeartbeats 4000000 in
theorem drawBytes_aft {h : List Blk} {b : Nat} {cv : Value} (s : SrcAt h b cv) {most : Nat} (hm : most ≤ 1000) :
    ∃ (n bl : Nat) (f : Nat → UInt8) (H : List Blk), n ≤ 1000 ∧ Aft h H b cv ∧ h.length ≤ bl ∧ H[bl]? = some ⟨Bs n f, true⟩ ∧ AC Try.prog 42 [pt b 0, .int .i64 most] h (sl bl 0 n 1) H := by
  have hl1 := s.lt
  have a0 := s.more [⟨[], true⟩]
  obtain ⟨x1, h2, hx1, a1, d1⟩ := next_aft a0.src (N := min most 5 + 1) (by omega) (by omega)
  obtain ⟨x2, h3, hx2, a2, d2⟩ := next_aft a1.src (N := min most 40 + 1) (by omega) (by omega)
  obtain ⟨x3, h3b, hx3, a2b, d2b⟩ := next_aft a2.src (N := most + 1) (by omega) (by omega)
  obtain ⟨w, h4, hw, a3, d3⟩ := pickL_aft a2b.src [.int .i64 x1, .int .i64 x2, .int .i64 x3] (n := 3) rfl rfl (by omega) (by omega)
  obtain ⟨n, rfl, hn⟩ : ∃ n : Nat, w = n ∧ n ≤ 1000 := by
    obtain ⟨i, hi, e⟩ := hw
    match i, hi, e with
    | 0, _, e => cases e; exact ⟨x1, rfl, by omega⟩
    | 1, _, e => cases e; exact ⟨x2, rfl, by omega⟩
    | 2, _, e => cases e; exact ⟨x3, rfl, by omega⟩
    | n + 3, h, _ => exact absurd h (by omega)
  have A0 := (((a0.trans a1).trans a2).trans a2b).trans a3
  have hB := (((a1.trans a2).trans a2b).trans a3).keep h.length ⟨[], true⟩ (by omega) (by simp)
  obtain ⟨st, e0, hI, hRt⟩ := seq_ex (S := ByD) (n := n)
    (I := fun k s => s.M[s.b]? = some ⟨Bs k s.v, true⟩ ∧ Aft h s.M b cv ∧ h.length ≤ s.b)
    (R := fun k s t => ∃ (y : UInt8) (M1 : List Blk), AC Try.prog 34 [pt b 0] s.M (B y) M1 ∧ M1[s.b]? = some ⟨Bs k s.v, true⟩ ∧ t = ⟨M1.set s.b dead ++ [⟨[B y], true⟩, ⟨Bs (k + 1) (upd s.v k y), true⟩], M1.length + 1, upd s.v k y⟩)
    ⟨h4, h.length, fun _ => 0⟩ ⟨hB, A0, Nat.le_refl _⟩ (fun k hk s0 ⟨i1, i2, i3⟩ => by
      obtain ⟨y, M1, b1, f1⟩ := drawByte_aft i2.src
      have j1 := b1.keep _ _ (by omega) i1
      have hS := (i2.trans b1).set s (i := s0.b) i3 dead
      have hM := hS.trans (hS.src.more [⟨[B y], true⟩, ⟨Bs (k + 1) (upd s0.v k y), true⟩])
      refine ⟨_, ⟨?_, hM, ?_⟩, y, M1, f1, j1, rfl⟩
      · show (M1.set s0.b dead ++ [_, _])[M1.length + 1]? = _
        rw [List.getElem?_append_right (by simp), List.length_set]
        simp
      · show h.length ≤ M1.length + 1
        have := (i2.trans b1).len
        omega)
  obtain ⟨f1, f2, f3⟩ := hI n (Nat.le_refl _)
  have hlen := f2.len
  refine ⟨n, (st n).b, (st n).v, (st n).M, hn, f2, f3, f1, ?_⟩
  have m5 : (if (5 : Int) < ((most : Nat) : Int) then (5 : Int) else ((most : Nat) : Int)) = ((min most 5 : Nat) : Int) := by split <;> omega
  have m40 : (if (40 : Int) < ((most : Nat) : Int) then (40 : Int) else ((most : Nat) : Int)) = ((min most 40 : Nat) : Int) := by split <;> omega
  clear a0 a1 a2 a2b a3 A0 f2
  (refine AC_begin (fun _ _ => Try.call42 _ _) Try.func42 rfl Try.ntmps42 Try.results42 (fun hwf => ?_); simp only [List.length_cons, List.length_nil, Nat.reduceAdd, Nat.reduceSub, List.replicate, List.cons_append, List.nil_append])
  (repeat (first | ((first | (refine And.intro ?_ ?_; focus exact PLA) | ((first | with_reducible apply callB_i | with_reducible apply callK_intro | with_reducible apply callQ_i); (focus (first | assumption | ((first | with_reducible apply d1 | with_reducible apply d2 | with_reducible apply d2b | with_reducible apply d3) <;> (first | assumption | rfl | (simp (disch := omega) only [go_sem]; first | done | rfl) | omega | decide | (simp; done))))); (try exact WP_au)) | refine WA_seq (WA_region ?_) | refine WA_region ?_ | refine WA_exit ?_); try simp (maxSteps := 1000000) (disch := first | omega | rfl | decide | (simp only [List.length_cons, List.length_nil, List.length_append, Bs_length, Is_length, Vs_length, Bl_length, Il_length] <;> omega)) only [go_sem, Nat.reduceAdd, Int.reduceAdd, Int.reduceSub, Int.reduceMul, Bool.not_true, Bool.not_false, m5, m40]) | refine WA_seq ?_ | refine WA_block ?_ | (refine WA_skip ?_; try simp only [go_sem]) | (refine WA_ret ?_; try simp only [go_sem]) | refine WA_ct rfl ?_ | refine WA_cf rfl ?_))
  refine WA_forH (fun k => [(5, sl (st k).b 0 k 1), (6, .int .i64 ((n - k : Nat))), (25, J), (26, J), (27, J), (28, J), (29, J), (30, J), (31, J), (32, J), (33, J)]) (fun k => (st k).M) (n) ?_ ?_ ?_ <;> (try simp only [patT_cons, patT_nil, patL_cons, patL_nil, list_set_zero, list_set_succ, blk_set_zero, blk_set_succ])
  · have q0 : (st 0).M = h4 := by rw [e0]
    have q1 : (st 0).b = h.length := by rw [e0]
    rw [q0, q1]
    have l4 : h.length ≤ h4.length := by have := blt hB; omega
    (refine Drop_slots (by first | assumption | exact Nat.le_refl _) ?_; focus ((try simp only [JL_same, JL_J, JL_nil, Int.reduceAdd, Nat.sub_sub, Int.natCast_add, Int.natCast_one, Int.natCast_zero, Int.cast_ofNat_Int, Nat.add_zero, Bool.false_eq_true, if_false, if_true]); (try exact JL_refl _)))
  · intro k hk
    obtain ⟨y, M1, f1', j1, e⟩ := hRt k hk
    have q1 := (hI (k + 1) hk).2.1.len
    have q3 : h.length ≤ (st (k + 1)).M.length := by omega
    rw [e] at q3 ⊢
    clear q1
    (repeat (first | ((first | (refine And.intro ?_ ?_; focus exact PLA) | ((first | with_reducible apply callB_i | with_reducible apply callK_intro | with_reducible apply callQ_i); (focus (first | assumption | (with_reducible apply f1' <;> (first | assumption | rfl | (simp (disch := omega) only [go_sem]; first | done | rfl) | omega | decide | (simp; done))))); (try exact WP_au)) | refine WA_seq (WA_region ?_) | refine WA_region ?_ | refine WA_exit ?_); try simp (maxSteps := 1000000) (disch := first | omega | rfl | decide | (simp only [List.length_cons, List.length_nil, List.length_append, Bs_length, Is_length, Vs_length, Bl_length, Il_length] <;> omega)) only [go_sem, Nat.reduceAdd, Int.reduceAdd, Int.reduceSub, Int.reduceMul, Bool.not_true, Bool.not_false, decide_eq_true (show 0 < n - k by omega), look_old j1, set_app (blt j1), sub1, Bs_snoc2]) | refine WA_seq ?_ | refine WA_block ?_ | (refine WA_skip ?_; try simp only [go_sem]) | (refine WA_ret ?_; try simp only [go_sem]) | refine WA_ct rfl ?_ | refine WA_cf rfl ?_))
    (refine Drop_slots (by first | assumption | exact Nat.le_refl _) ?_; focus ((try simp only [JL_same, JL_J, JL_nil, Int.reduceAdd, Nat.sub_sub, Int.natCast_add, Int.natCast_one, Int.natCast_zero, Int.cast_ofNat_Int, Nat.add_zero, Bool.false_eq_true, if_false, if_true]); (try exact JL_refl _)))
  · (repeat (first | ((first | (refine And.intro ?_ ?_; focus exact PLA) | refine WA_seq (WA_region ?_) | refine WA_region ?_ | refine WA_exit ?_); try simp (maxSteps := 1000000) (disch := first | omega | rfl | decide | (simp only [List.length_cons, List.length_nil, List.length_append, Bs_length, Is_length, Vs_length, Bl_length, Il_length] <;> omega)) only [go_sem, Nat.reduceAdd, Int.reduceAdd, Int.reduceSub, Int.reduceMul, Bool.not_true, Bool.not_false, Nat.sub_self]) | refine WA_seq ?_ | refine WA_block ?_ | (refine WA_skip ?_; try simp only [go_sem]) | (refine WA_ret ?_; try simp only [go_sem]) | refine WA_ct rfl ?_ | refine WA_cf rfl ?_))
    refine ret_full (by first | exact .inr rfl | exact .inl rfl) hlen ?_
    simp (maxSteps := 1000000) (disch := first | omega | rfl | decide | (simp only [List.length_cons, List.length_nil, List.length_append, Bs_length, Is_length, Vs_length, Bl_length, Il_length] <;> omega)) only [go_sem, Nat.reduceAdd, Int.reduceAdd, Int.reduceSub, Int.reduceMul, Bool.not_true, Bool.not_false]
    try rfl

end Go.Proofs.Ytapiaenodhhgdaa
/- Draws of the law on equations in fields. -/
namespace Go.Proofs.Ytapiaenodhhgdaa
set_option linter.unusedSimpArgs false
set_option linter.unusedVariables false
set_option maxRecDepth 20000
set_option maxHeartbeats 1000000
open Go.Abs

theorem drQua_op {H : List Blk} {cv : Value} (c : Cv H cv) : ∃ (m : Int) (a : UInt8) (H' : List Blk), (∃ A, H' = H ++ A) ∧ Cv H' cv ∧ AC Try.prog 5 [cv] H (.tuple #[.int .i64 m, B a]) H' := by
  obtain ⟨m, a, b, L, d⟩ := two_ex c
  refine ⟨m, a, H ++ L, ⟨L, rfl⟩, c.app L, ?_⟩
  (refine AC_begin (fun _ _ => Try.call5 _ _) Try.func5 rfl Try.ntmps5 Try.results5 (fun hwf => ?_); simp only [List.length_cons, List.length_nil, Nat.reduceAdd, Nat.reduceSub, List.replicate, List.cons_append, List.nil_append])
  (repeat (first | ((first | (refine And.intro ?_ ?_; focus exact PLA) | ((first | with_reducible apply callB_i | with_reducible apply callK_intro | with_reducible apply callQ_i); (focus (first | assumption | (with_reducible apply d <;> (first | assumption | rfl | (simp (disch := omega) only [go_sem]; first | done | rfl) | omega | decide | (simp; done))))); (try exact WP_au)) | refine WA_seq (WA_region ?_) | refine WA_region ?_ | refine WA_exit ?_); try simp (maxSteps := 1000000) (disch := first | omega | rfl | decide | (simp only [List.length_cons, List.length_nil, List.length_append, Bs_length, Is_length, Vs_length, Bl_length, Il_length] <;> omega)) only [go_sem, Nat.reduceAdd, Int.reduceAdd, Int.reduceSub, Int.reduceMul, Bool.not_true, Bool.not_false]) | refine WA_seq ?_ | refine WA_block ?_ | (refine WA_skip ?_; try simp only [go_sem]) | (refine WA_ret ?_; try simp only [go_sem]) | refine WA_ct rfl ?_ | refine WA_cf rfl ?_))
  ((first | refine ret_nA ?_ | refine ret_sA ?_ | refine ret_fA ?_); simp (maxSteps := 1000000) (disch := first | omega | rfl | decide | (simp only [List.length_cons, List.length_nil, List.length_append, Bs_length, Is_length, Vs_length, Bl_length, Il_length] <;> omega)) only [go_sem, Nat.reduceAdd, Int.reduceAdd, Int.reduceSub, Int.reduceMul, Bool.not_true, Bool.not_false]; try rfl)

theorem drVal_op {H : List Blk} {cv : Value} (c : Cv H cv) : ∃ (m : Int) (n bl : Nat) (f : Nat → UInt8) (x : UInt8) (H' : List Blk), n ≤ 1000 ∧ H'[bl]? = some ⟨Bs n f, true⟩ ∧ (∃ A, H' = H ++ A) ∧ Cv H' cv ∧ AC Try.prog 20 [cv] H (.tuple #[.int .i64 m, sl bl 0 n 1, B x]) H' := by
  obtain ⟨h1, s1, e1, c1⟩ := from_aft c
  obtain ⟨m, h2, a2, c2⟩ := spoil_aft s1
  obtain ⟨w, h3, hw, a3, c3⟩ := pickL_aft a2.src [.int .i64 6, .int .i64 40, .int .i64 41] (n := 3) rfl rfl (by omega) (by omega)
  obtain ⟨q, rfl, hq⟩ : ∃ n : Nat, w = n ∧ n ≤ 1000 := by
    obtain ⟨i, hi, e⟩ := hw
    match i, hi, e with
    | 0, _, e => cases e; exact ⟨6, rfl, by omega⟩
    | 1, _, e => cases e; exact ⟨40, rfl, by omega⟩
    | 2, _, e => cases e; exact ⟨41, rfl, by omega⟩
    | n + 3, h, _ => exact absurd h (by omega)
  obtain ⟨n, bl, f, h4, hn, a4, hbl, hb4, c4⟩ := drawBytes_aft a3.src hq
  obtain ⟨x, h5, a5, c5⟩ := drawByte_aft a4.src
  have hl := s1.lt
  have l2 := a2.len
  have l3 := a3.len
  have hb5 := a5.keep _ _ (by omega) hb4
  have A := ((a2.trans a3).trans a4).trans a5
  obtain ⟨L, e5⟩ := A.app H (Nat.le_refl _) e1
  have hlen : H.length ≤ h5.length := by rw [e5]; simp
  refine ⟨m, n, bl, f, x, h5, hn, hb5, ⟨L, e5⟩, by rw [e5]; exact c.app L, ?_⟩
  clear a2 a3 a4 a5 A e5 hb4
  (refine AC_begin (fun _ _ => Try.call20 _ _) Try.func20 rfl Try.ntmps20 Try.results20 (fun hwf => ?_); simp only [List.length_cons, List.length_nil, Nat.reduceAdd, Nat.reduceSub, List.replicate, List.cons_append, List.nil_append])
  (repeat (first | ((first | (refine And.intro ?_ ?_; focus exact PLA) | ((first | with_reducible apply callB_i | with_reducible apply callK_intro | with_reducible apply callQ_i); (focus (first | assumption | ((first | with_reducible apply c1 | with_reducible apply c2 | with_reducible apply c3 | with_reducible apply c4 | with_reducible apply c5) <;> (first | assumption | rfl | (simp (disch := omega) only [go_sem]; first | done | rfl) | omega | decide | (simp; done))))); (try exact WP_au)) | refine WA_seq (WA_region ?_) | refine WA_region ?_ | refine WA_exit ?_); try simp (maxSteps := 1000000) (disch := first | omega | rfl | decide | (simp only [List.length_cons, List.length_nil, List.length_append, Bs_length, Is_length, Vs_length, Bl_length, Il_length] <;> omega)) only [go_sem, Nat.reduceAdd, Int.reduceAdd, Int.reduceSub, Int.reduceMul, Bool.not_true, Bool.not_false]) | refine WA_seq ?_ | refine WA_block ?_ | (refine WA_skip ?_; try simp only [go_sem]) | (refine WA_ret ?_; try simp only [go_sem]) | refine WA_ct rfl ?_ | refine WA_cf rfl ?_))
  refine ret_full (by first | exact .inr rfl | exact .inl rfl) hlen ?_
  simp (maxSteps := 1000000) (disch := first | omega | rfl | decide | (simp only [List.length_cons, List.length_nil, List.length_append, Bs_length, Is_length, Vs_length, Bl_length, Il_length] <;> omega)) only [go_sem, Nat.reduceAdd, Int.reduceAdd, Int.reduceSub, Int.reduceMul, Bool.not_true, Bool.not_false]
  try rfl

theorem Bs_snoc3 {n : Nat} (f : Nat → UInt8) : Bs n f ++ [B (f n)] = Bs (n + 1) f := by
  unfold Bs; rw [List.range_succ, List.map_append]; rfl
structure ItD where
  M : List Blk
  bp : Nat
  bv : Nat
  v : Nat → UInt8
def pcP (s0 st : Nat) : Nat → UInt8 := fun k => UInt8.ofNat ((s0 + st * k) % 256)
attribute [local irreducible] pcP
set_option maxHeartbeats 8000000 in
theorem drItp_op {h : List Blk} {cv : Value} (c : Cv h cv) : ∃ (m : Int) (n bp : Nat) (f : Nat → UInt8) (n' bv : Nat) (g : Nat → UInt8) (H' : List Blk), (n ≤ 1000 ∧ n' ≤ 1000) ∧ H'[bp]? = some ⟨Bs n f, true⟩ ∧ H'[bv]? = some ⟨Bs n' g, true⟩ ∧ (∃ A, H' = h ++ A) ∧ Cv H' cv ∧ AC Try.prog 15 [cv] h (.tuple #[.int .i64 m, sl bp 0 n 1, sl bv 0 n' 1]) H' := by
  obtain ⟨h1, s1, e1, c1⟩ := from_aft c
  have hl1 := s1.lt
  obtain ⟨m, h2, a2, c2⟩ := spoil_aft s1
  obtain ⟨x1, h3, hx1, a3, c3⟩ := next_aft a2.src (N := 4) (by omega) (by omega)
  obtain ⟨x2, h4, hx2, a4, c4⟩ := next_aft a3.src (N := 10) (by omega) (by omega)
  obtain ⟨w, h5, hw, a5, c5⟩ := pickL_aft a4.src [.int .i64 ((1 + x1 : Nat) : Int), .int .i64 ((1 + x2 : Nat) : Int), .int .i64 40, .int .i64 41, .int .i64 0] (n := 5) rfl rfl (by omega) (by omega)
  obtain ⟨n, rfl, hn⟩ : ∃ n : Nat, w = n ∧ n ≤ 100 := by
    obtain ⟨i, hi, e⟩ := hw
    match i, hi, e with
    | 0, _, e => cases e; exact ⟨1 + x1, rfl, by omega⟩
    | 1, _, e => cases e; exact ⟨1 + x2, rfl, by omega⟩
    | 2, _, e => cases e; exact ⟨40, rfl, by omega⟩
    | 3, _, e => cases e; exact ⟨41, rfl, by omega⟩
    | 4, _, e => cases e; exact ⟨0, rfl, by omega⟩
    | n + 5, h, _ => exact absurd h (by omega)
  obtain ⟨x3, h6, hx3, a6, c6⟩ := next_aft a5.src (N := 256) (by omega) (by omega)
  obtain ⟨x4, h7, hx4, a7, c7⟩ := next_aft a6.src (N := 128) (by omega) (by omega)
  obtain ⟨sp, hsp, hsp2⟩ : ∃ sp, 1 + 2 * x4 = sp ∧ sp ≤ 255 := ⟨_, rfl, by omega⟩
  have A0 := ((((a2.trans a3).trans a4).trans a5).trans a6).trans a7
  have A1 := A0.trans (a7.src.more [⟨[], true⟩, ⟨[], true⟩])
  have l7 := A0.len
  obtain ⟨st, e0, hI, hRt⟩ := seq_ex (S := ItD) (n := n)
    (I := fun k s => s.M[s.bp]? = some ⟨Bs k (pcP x3 sp), true⟩ ∧ s.M[s.bv]? = some ⟨Bs k s.v, true⟩ ∧ Aft h1 s.M h.length cv ∧ (h1.length ≤ s.bp ∧ h1.length ≤ s.bv ∧ s.bp ≠ s.bv))
    (R := fun k s t => ∃ (y : UInt8) (M1 : List Blk), AC Try.prog 34 [pt h.length 0] (s.M.set s.bp dead ++ [⟨[B (pcP x3 sp k)], true⟩, ⟨Bs (k + 1) (pcP x3 sp), true⟩]) (B y) M1 ∧ s.M[s.bp]? = some ⟨Bs k (pcP x3 sp), true⟩ ∧ M1[s.bv]? = some ⟨Bs k s.v, true⟩ ∧ t = ⟨M1.set s.bv dead ++ [⟨[B y], true⟩, ⟨Bs (k + 1) (upd s.v k y), true⟩], s.M.length + 1, M1.length + 1, upd s.v k y⟩)
    ⟨h7 ++ [⟨[], true⟩, ⟨[], true⟩], h7.length, h7.length + 1, fun _ => 0⟩ ⟨by show (h7 ++ [_, _])[h7.length]? = _; simp [Bs], by show (h7 ++ [_, _])[h7.length + 1]? = _; simp [Bs], A1, l7, Nat.le_succ_of_le l7, by simp⟩ (fun k hk s0 ⟨i1, i2, i3, i4, i5, i6⟩ => by
      have hS := i3.set s1 (i := s0.bp) i4 dead
      have hM := hS.trans (hS.src.more [⟨[B (pcP x3 sp k)], true⟩, ⟨Bs (k + 1) (pcP x3 sp), true⟩])
      obtain ⟨y, M1, b1, f1⟩ := drawByte_aft hM.src
      have l0 := i3.len
      have lb := b1.len
      simp only [List.length_append, List.length_set, List.length_cons, List.length_nil] at lb
      have j1 := b1.keep s0.bv ⟨Bs k s0.v, true⟩ (by omega) (look_old (set_at i2 i6) _)
      have j2 := b1.keep (s0.M.length + 1) ⟨Bs (k + 1) (pcP x3 sp), true⟩ (by omega) (by rw [List.getElem?_append_right (by simp), List.length_set]; simp)
      have hS2 := (hM.trans b1).set s1 (i := s0.bv) i5 dead
      have hM2 := hS2.trans (hS2.src.more [⟨[B y], true⟩, ⟨Bs (k + 1) (upd s0.v k y), true⟩])
      have lbv := blt i2
      refine ⟨_, ⟨?_, ?_, hM2, ?_, ?_, ?_⟩, y, M1, f1, i1, j1, rfl⟩
      · exact look_old (set_at j2 (by omega)) _
      · show (M1.set s0.bv dead ++ [_, _])[M1.length + 1]? = _
        rw [List.getElem?_append_right (by simp), List.length_set]
        simp
      · show h1.length ≤ s0.M.length + 1
        omega
      · show h1.length ≤ M1.length + 1
        omega
      · show s0.M.length + 1 ≠ M1.length + 1
        omega)
  obtain ⟨f1, f2, f3, f4, f5, f6⟩ := hI n (Nat.le_refl _)
  obtain ⟨y, h8, hy, a8, c8⟩ := next_aft f3.src (N := 20) (by omega) (by omega)
  have g1 := a8.keep _ _ (by omega) f1
  have g2 := a8.keep _ _ (by omega) f2
  have F := f3.trans a8
  -- what the switch does
  obtain ⟨f, n', bv, g, h9, F9, hn', k1, k2, p9⟩ : ∃ (f : Nat → UInt8) (n' bv : Nat) (g : Nat → UInt8) (h9 : List Blk), Aft h1 h9 h.length cv ∧ n' ≤ 1000 ∧ h9[(st n).bp]? = some ⟨Bs n f, true⟩ ∧ h9[bv]? = some ⟨Bs n' g, true⟩ ∧
      ((y = 0 ∧ n' = n + 1 ∧ bv = h8.length + 1 ∧ h9 = h8.set (st n).bv dead ++ [⟨[B 1], true⟩, ⟨Bs (n + 1) (upd (st n).v n 1), true⟩]) ∨ (n' = n ∧ bv = (st n).bv ∧ ((y = 1 ∧ 1 < n ∧ h9 = h8.set (st n).bp ⟨Bs n (upd (pcP x3 sp) 0 (pcP x3 sp 1)), true⟩) ∨ (y = 1 ∧ n ≤ 1 ∧ h9 = h8) ∨ (y ≠ 0 ∧ y ≠ 1 ∧ h9 = h8)))) := by
    by_cases y0 : y = 0
    · have hS := F.set s1 (i := (st n).bv) f5 dead
      have hM := hS.trans (hS.src.more [⟨[B 1], true⟩, ⟨Bs (n + 1) (upd (st n).v n 1), true⟩])
      exact ⟨pcP x3 sp, n + 1, h8.length + 1, upd (st n).v n 1, _, hM, by omega, look_old (set_at g1 (Ne.symm f6)) _, by rw [List.getElem?_append_right (by simp), List.length_set]; simp, .inl ⟨y0, rfl, rfl, rfl⟩⟩
    · by_cases y1 : y = 1
      · by_cases hn1 : 1 < n
        · have hS := F.set s1 (i := (st n).bp) f4 ⟨Bs n (upd (pcP x3 sp) 0 (pcP x3 sp 1)), true⟩
          exact ⟨_, n, _, _, _, hS, by omega, look_set (blt g1), set_at g2 f6, .inr ⟨rfl, rfl, .inl ⟨y1, hn1, rfl⟩⟩⟩
        · exact ⟨_, n, _, _, _, F, by omega, g1, g2, .inr ⟨rfl, rfl, .inr (.inl ⟨y1, by omega, rfl⟩)⟩⟩
      · exact ⟨_, n, _, _, _, F, by omega, g1, g2, .inr ⟨rfl, rfl, .inr (.inr ⟨y0, y1, rfl⟩)⟩⟩
  obtain ⟨L, e9⟩ := F9.app h (Nat.le_refl _) e1
  refine ⟨m, n, (st n).bp, f, n', bv, g, h9, ⟨by omega, hn'⟩, k1, k2, ⟨L, e9⟩, by rw [e9]; exact c.app L, ?_⟩
  have hlen : h.length ≤ h9.length := by rw [e9]; simp
  have hlen8 : h.length ≤ h8.length := by have := F.len; omega
  clear a2 a3 a4 a5 a6 a7 a8 A0 A1 F F9 f3 e9
  (refine AC_begin (fun _ _ => Try.call15 _ _) Try.func15 rfl Try.ntmps15 Try.results15 (fun hwf => ?_); simp only [List.length_cons, List.length_nil, Nat.reduceAdd, Nat.reduceSub, List.replicate, List.cons_append, List.nil_append])
  (repeat (first | ((first | (refine And.intro ?_ ?_; focus exact PLA) | ((first | with_reducible apply callB_i | with_reducible apply callK_intro | with_reducible apply callQ_i); (focus (first | assumption | ((first | with_reducible apply c1 | with_reducible apply c2 | with_reducible apply c3 | with_reducible apply c4 | with_reducible apply c5 | with_reducible apply c6 | with_reducible apply c7) <;> (first | assumption | rfl | (simp (disch := omega) only [go_sem]; first | done | rfl) | omega | decide | (simp; done))))); (try exact WP_au)) | refine WA_seq (WA_region ?_) | refine WA_region ?_ | refine WA_exit ?_); try simp (maxSteps := 1000000) (disch := first | omega | rfl | decide | (simp only [List.length_cons, List.length_nil, List.length_append, Bs_length, Is_length, Vs_length, Bl_length, Il_length] <;> omega)) only [go_sem, Nat.reduceAdd, Int.reduceAdd, Int.reduceSub, Int.reduceMul, Bool.not_true, Bool.not_false, hsp]) | refine WA_seq ?_ | refine WA_block ?_ | (refine WA_skip ?_; try simp only [go_sem]) | (refine WA_ret ?_; try simp only [go_sem]) | refine WA_ct rfl ?_ | refine WA_cf rfl ?_))
  refine WA_forH (fun k => [(10, sl (st k).bp 0 k 1), (11, sl (st k).bv 0 k 1), (12, .int .i64 k), (34, J), (35, J), (36, J), (37, J), (38, J), (39, J), (40, J), (41, J), (42, J), (43, J), (44, J), (45, J), (46, J), (47, J), (48, J), (49, J), (50, J), (51, J), (52, J), (53, J)]) (fun k => (st k).M) (n) ?_ ?_ ?_ <;> (try simp only [patT_cons, patT_nil, patL_cons, patL_nil, list_set_zero, list_set_succ, blk_set_zero, blk_set_succ])
  · have q0 : (st 0).M = h7 ++ [⟨[], true⟩, ⟨[], true⟩] := by rw [e0]
    have q1 : (st 0).bp = h7.length := by rw [e0]
    have q2 : (st 0).bv = h7.length + 1 := by rw [e0]
    rw [q0, q1, q2]
    have l0 : h.length ≤ (h7 ++ [(⟨[], true⟩ : Blk), ⟨[], true⟩]).length := by rw [List.length_append]; omega
    (refine Drop_slots (by first | assumption | exact Nat.le_refl _) ?_; focus ((try simp only [JL_same, JL_J, JL_nil, Int.reduceAdd, Nat.sub_sub, Int.natCast_add, Int.natCast_one, Int.natCast_zero, Int.cast_ofNat_Int, Nat.add_zero, Bool.false_eq_true, if_false, if_true]); (try exact JL_refl _)))
  · intro k hk
    obtain ⟨y, M1, f1', i1, j1, e⟩ := hRt k hk
    have q1 := (hI (k + 1) hk).2.2.1.len
    have q4 := (hI k (by omega)).2.2.1.len
    have q3 : h.length ≤ (st (k + 1)).M.length := by omega
    rw [e] at q3 ⊢
    clear q1
    have hp1 : UInt8.ofNat ((x3 + sp * k) % 256) = pcP x3 sp k := by unfold pcP; rfl
    have hsk : sp * k ≤ 25500 := Nat.le_trans (Nat.mul_le_mul hsp2 (show k ≤ 100 by omega)) (by omega)
    (repeat (first | ((first | (refine And.intro ?_ ?_; focus exact PLA) | ((first | with_reducible apply callB_i | with_reducible apply callK_intro | with_reducible apply callQ_i); (focus (first | assumption | (with_reducible apply f1' <;> (first | assumption | rfl | (simp (disch := omega) only [go_sem]; first | done | rfl) | omega | decide | (simp; done))))); (try exact WP_au)) | refine WA_seq (WA_region ?_) | refine WA_region ?_ | refine WA_exit ?_); try simp (maxSteps := 1000000) (disch := first | omega | rfl | decide | (simp only [List.length_cons, List.length_nil, List.length_append, Bs_length, Is_length, Vs_length, Bl_length, Il_length] <;> omega)) only [go_sem, Nat.reduceAdd, Int.reduceAdd, Int.reduceSub, Int.reduceMul, Bool.not_true, Bool.not_false, hp1, look_old i1, set_app (blt i1), look_old j1, set_app (blt j1), sub1, Bs_snoc3 (n := k) (pcP x3 sp), Bs_snoc2 k (st k).v y]) | refine WA_seq ?_ | refine WA_block ?_ | (refine WA_skip ?_; try simp only [go_sem]) | (refine WA_ret ?_; try simp only [go_sem]) | refine WA_ct rfl ?_ | refine WA_cf rfl ?_))
    (refine Drop_slots (by first | assumption | exact Nat.le_refl _) ?_; focus ((try simp only [JL_same, JL_J, JL_nil, Int.reduceAdd, Nat.sub_sub, Int.natCast_add, Int.natCast_one, Int.natCast_zero, Int.cast_ofNat_Int, Nat.add_zero, Bool.false_eq_true, if_false, if_true]); (try exact JL_refl _)))
  · rcases p9 with ⟨rfl, rfl, rfl, rfl⟩ | ⟨rfl, rfl, ⟨rfl, hn1, rfl⟩ | ⟨rfl, hn1, rfl⟩ | ⟨y0, y1, rfl⟩⟩
    · (repeat (first | ((first | (refine And.intro ?_ ?_; focus exact PLA) | ((first | with_reducible apply callB_i | with_reducible apply callK_intro | with_reducible apply callQ_i); (focus (first | assumption | (with_reducible apply c8 <;> (first | assumption | rfl | (simp (disch := omega) only [go_sem]; first | done | rfl) | omega | decide | (simp; done))))); (try exact WP_au)) | refine WA_seq (WA_region ?_) | refine WA_region ?_ | refine WA_exit ?_); try simp (maxSteps := 1000000) (disch := first | omega | rfl | decide | (simp only [List.length_cons, List.length_nil, List.length_append, Bs_length, Is_length, Vs_length, Bl_length, Il_length] <;> omega)) only [go_sem, Nat.reduceAdd, Int.reduceAdd, Int.reduceSub, Int.reduceMul, Bool.not_true, Bool.not_false, show (((0 : Nat) : Int) == 0) = true from rfl, look_old g2, g2, set_app (blt g2), sub1, Bs_snoc2]) | refine WA_seq ?_ | refine WA_block ?_ | (refine WA_skip ?_; try simp only [go_sem]) | (refine WA_ret ?_; try simp only [go_sem]) | refine WA_ct rfl ?_ | refine WA_cf rfl ?_))
      refine ret_full (by first | exact .inr rfl | exact .inl rfl) hlen ?_
      simp (maxSteps := 1000000) (disch := first | omega | rfl | decide | (simp only [List.length_cons, List.length_nil, List.length_append, Bs_length, Is_length, Vs_length, Bl_length, Il_length] <;> omega)) only [go_sem, Nat.reduceAdd, Int.reduceAdd, Int.reduceSub, Int.reduceMul, Bool.not_true, Bool.not_false]
      try rfl
    · (repeat (first | ((first | (refine And.intro ?_ ?_; focus exact PLA) | ((first | with_reducible apply callB_i | with_reducible apply callK_intro | with_reducible apply callQ_i); (focus (first | assumption | (with_reducible apply c8 <;> (first | assumption | rfl | (simp (disch := omega) only [go_sem]; first | done | rfl) | omega | decide | (simp; done))))); (try exact WP_au)) | refine WA_seq (WA_region ?_) | refine WA_region ?_ | refine WA_exit ?_); try simp (maxSteps := 1000000) (disch := first | omega | rfl | decide | (simp only [List.length_cons, List.length_nil, List.length_append, Bs_length, Is_length, Vs_length, Bl_length, Il_length] <;> omega)) only [go_sem, Nat.reduceAdd, Int.reduceAdd, Int.reduceSub, Int.reduceMul, Bool.not_true, Bool.not_false, show (((1 : Nat) : Int) == 0) = false from rfl, show (((1 : Nat) : Int) == 1) = true from rfl, decide_eq_true hn1, g1]) | refine WA_seq ?_ | refine WA_block ?_ | (refine WA_skip ?_; try simp only [go_sem]) | (refine WA_ret ?_; try simp only [go_sem]) | refine WA_ct rfl ?_ | refine WA_cf rfl ?_))
      refine ret_full (by first | exact .inr rfl | exact .inl rfl) hlen ?_
      simp (maxSteps := 1000000) (disch := first | omega | rfl | decide | (simp only [List.length_cons, List.length_nil, List.length_append, Bs_length, Is_length, Vs_length, Bl_length, Il_length] <;> omega)) only [go_sem, Nat.reduceAdd, Int.reduceAdd, Int.reduceSub, Int.reduceMul, Bool.not_true, Bool.not_false]
      try rfl
    · (repeat (first | ((first | (refine And.intro ?_ ?_; focus exact PLA) | ((first | with_reducible apply callB_i | with_reducible apply callK_intro | with_reducible apply callQ_i); (focus (first | assumption | (with_reducible apply c8 <;> (first | assumption | rfl | (simp (disch := omega) only [go_sem]; first | done | rfl) | omega | decide | (simp; done))))); (try exact WP_au)) | refine WA_seq (WA_region ?_) | refine WA_region ?_ | refine WA_exit ?_); try simp (maxSteps := 1000000) (disch := first | omega | rfl | decide | (simp only [List.length_cons, List.length_nil, List.length_append, Bs_length, Is_length, Vs_length, Bl_length, Il_length] <;> omega)) only [go_sem, Nat.reduceAdd, Int.reduceAdd, Int.reduceSub, Int.reduceMul, Bool.not_true, Bool.not_false, show (((1 : Nat) : Int) == 0) = false from rfl, show (((1 : Nat) : Int) == 1) = true from rfl, show decide (1 < n') = false from decide_eq_false (by omega), g1]) | refine WA_seq ?_ | refine WA_block ?_ | (refine WA_skip ?_; try simp only [go_sem]) | (refine WA_ret ?_; try simp only [go_sem]) | refine WA_ct rfl ?_ | refine WA_cf rfl ?_))
      refine ret_full (by first | exact .inr rfl | exact .inl rfl) hlen ?_
      simp (maxSteps := 1000000) (disch := first | omega | rfl | decide | (simp only [List.length_cons, List.length_nil, List.length_append, Bs_length, Is_length, Vs_length, Bl_length, Il_length] <;> omega)) only [go_sem, Nat.reduceAdd, Int.reduceAdd, Int.reduceSub, Int.reduceMul, Bool.not_true, Bool.not_false]
      try rfl
    · have b0 : (((y : Nat) : Int) == 0) = false := by simpa using y0
      have b1 : (((y : Nat) : Int) == 1) = false := by rw [beq_eq_false_iff_ne]; omega
      (repeat (first | ((first | (refine And.intro ?_ ?_; focus exact PLA) | ((first | with_reducible apply callB_i | with_reducible apply callK_intro | with_reducible apply callQ_i); (focus (first | assumption | (with_reducible apply c8 <;> (first | assumption | rfl | (simp (disch := omega) only [go_sem]; first | done | rfl) | omega | decide | (simp; done))))); (try exact WP_au)) | refine WA_seq (WA_region ?_) | refine WA_region ?_ | refine WA_exit ?_); try simp (maxSteps := 1000000) (disch := first | omega | rfl | decide | (simp only [List.length_cons, List.length_nil, List.length_append, Bs_length, Is_length, Vs_length, Bl_length, Il_length] <;> omega)) only [go_sem, Nat.reduceAdd, Int.reduceAdd, Int.reduceSub, Int.reduceMul, Bool.not_true, Bool.not_false, b0, b1]) | refine WA_seq ?_ | refine WA_block ?_ | (refine WA_skip ?_; try simp only [go_sem]) | (refine WA_ret ?_; try simp only [go_sem]) | refine WA_ct rfl ?_ | refine WA_cf rfl ?_))
      refine ret_full (by first | exact .inr rfl | exact .inl rfl) hlen ?_
      simp (maxSteps := 1000000) (disch := first | omega | rfl | decide | (simp only [List.length_cons, List.length_nil, List.length_append, Bs_length, Is_length, Vs_length, Bl_length, Il_length] <;> omega)) only [go_sem, Nat.reduceAdd, Int.reduceAdd, Int.reduceSub, Int.reduceMul, Bool.not_true, Bool.not_false]
      try rfl

end Go.Proofs.Ytapiaenodhhgdaa
/- Dice of the laws: as the draws' source. -/
namespace Go.Proofs.Ytapiaenodhhgdaa
set_option linter.unusedSimpArgs false
set_option linter.unusedVariables false
set_option maxRecDepth 20000
set_option maxHeartbeats 1000000
open Go.Abs

theorem below_ex {h : List Blk} {b : Nat} {cv : Value} {k : Blk} (hb : h[b]? = some k) (hk : Src h b cv k) {N : Nat} (hN : 0 < N) (hN2 : N ≤ 1125899906842624) :
    ∃ (x : Nat) (k' : Blk), x < N ∧ Src h b cv k' ∧ AC Try.prog 14 [pt b 0, .int .i64 N] h (.int .i64 x) (h.set b k') := by
  obtain ⟨a, hs, n, f, rfl, h1, h2, c⟩ := hk
  have hbl := blt hb
  obtain ⟨q, hq, e⟩ := and24 ((nxH hs).fdiv (2 ^ (min 33 64)))
  cases c with
  | nil =>
    refine ⟨q % N, ⟨Sr (.slice none 0 0) a (nxH hs), true⟩, Nat.mod_lt _ hN, ⟨a, _, 0, f, rfl, h1, h2, .nil f⟩, ?_⟩
    have hz : decide (N < 1) = false := decide_eq_false (by omega)
    have ha : decide (a < 0) = false := decide_eq_false (by omega)
    (refine AC_begin (fun _ _ => Try.call14 _ _) Try.func14 rfl Try.ntmps14 Try.results14 (fun hwf => ?_); simp only [List.length_cons, List.length_nil, Nat.reduceAdd, Nat.reduceSub, List.replicate, List.cons_append, List.nil_append])
    (repeat (first | ((first | (refine And.intro ?_ ?_; focus exact PLA) | refine WA_seq (WA_region ?_) | refine WA_region ?_ | refine WA_exit ?_); try simp (maxSteps := 1000000) (disch := first | omega | rfl | decide | (simp only [List.length_cons, List.length_nil, List.length_append, Bs_length, Is_length, Vs_length, Bl_length, Il_length] <;> omega)) only [go_sem, Nat.reduceAdd, Int.reduceAdd, Int.reduceSub, Int.reduceMul, Bool.not_true, Bool.not_false, hb, look_set hbl, List.set_set, hz, ha, show IntKind.u64.wrap (IntKind.u64.wrap (hs * 6364136223846793005) + 1442695040888963407) = nxH hs from rfl, e]) | (refine WA_seq (WA_draw (id := 5) mixedOk (by kernel_rfl) ?_); simp (maxSteps := 1000000) (disch := first | omega | rfl | decide | (simp only [List.length_cons, List.length_nil, List.length_append, Bs_length, Is_length, Vs_length, Bl_length, Il_length] <;> omega)) only [go_sem, Nat.reduceAdd, Int.reduceAdd, Int.reduceSub, Int.reduceMul, Bool.not_true, Bool.not_false, hb, look_set hbl, List.set_set, hz, ha, show IntKind.u64.wrap (IntKind.u64.wrap (hs * 6364136223846793005) + 1442695040888963407) = nxH hs from rfl, e]) | (refine WA_draw (id := 5) mixedOk (by kernel_rfl) ?_; simp (maxSteps := 1000000) (disch := first | omega | rfl | decide | (simp only [List.length_cons, List.length_nil, List.length_append, Bs_length, Is_length, Vs_length, Bl_length, Il_length] <;> omega)) only [go_sem, Nat.reduceAdd, Int.reduceAdd, Int.reduceSub, Int.reduceMul, Bool.not_true, Bool.not_false, hb, look_set hbl, List.set_set, hz, ha, show IntKind.u64.wrap (IntKind.u64.wrap (hs * 6364136223846793005) + 1442695040888963407) = nxH hs from rfl, e]) | (refine WA_seq (WA_draw (id := 6) mixedOk (by kernel_rfl) ?_); simp (maxSteps := 1000000) (disch := first | omega | rfl | decide | (simp only [List.length_cons, List.length_nil, List.length_append, Bs_length, Is_length, Vs_length, Bl_length, Il_length] <;> omega)) only [go_sem, Nat.reduceAdd, Int.reduceAdd, Int.reduceSub, Int.reduceMul, Bool.not_true, Bool.not_false, hb, look_set hbl, List.set_set, hz, ha, show IntKind.u64.wrap (IntKind.u64.wrap (hs * 6364136223846793005) + 1442695040888963407) = nxH hs from rfl, e]) | (refine WA_draw (id := 6) mixedOk (by kernel_rfl) ?_; simp (maxSteps := 1000000) (disch := first | omega | rfl | decide | (simp only [List.length_cons, List.length_nil, List.length_append, Bs_length, Is_length, Vs_length, Bl_length, Il_length] <;> omega)) only [go_sem, Nat.reduceAdd, Int.reduceAdd, Int.reduceSub, Int.reduceMul, Bool.not_true, Bool.not_false, hb, look_set hbl, List.set_set, hz, ha, show IntKind.u64.wrap (IntKind.u64.wrap (hs * 6364136223846793005) + 1442695040888963407) = nxH hs from rfl, e]) | refine WA_seq ?_ | refine WA_block ?_ | (refine WA_skip ?_; try simp only [go_sem]) | (refine WA_ret ?_; try simp only [go_sem]) | refine WA_ct rfl ?_ | refine WA_cf rfl ?_))
    ((first | refine ret_nA ?_ | refine ret_sA ?_ | refine ret_fA ?_); simp (maxSteps := 1000000) (disch := first | omega | rfl | decide | (simp only [List.length_cons, List.length_nil, List.length_append, Bs_length, Is_length, Vs_length, Bl_length, Il_length] <;> omega)) only [go_sem, Nat.reduceAdd, Int.reduceAdd, Int.reduceSub, Int.reduceMul, Bool.not_true, Bool.not_false]; try rfl)
  | sl _ hc hne =>
    have hc2 := fun (x : Blk) => set_at (x := x) hc hne.symm
    have hz : decide (N < 1) = false := decide_eq_false (by omega)
    by_cases ha : a < n
    · have hf := u8_lt (f a)
      refine ⟨(q + (f a).toNat) % N, ⟨Sr _ ((a + 1 : Nat) : Int) (nxH hs), true⟩, Nat.mod_lt _ hN, ⟨a + 1, _, n, f, rfl, by omega, h2, .sl f hc hne⟩, ?_⟩
      (refine AC_begin (fun _ _ => Try.call14 _ _) Try.func14 rfl Try.ntmps14 Try.results14 (fun hwf => ?_); simp only [List.length_cons, List.length_nil, Nat.reduceAdd, Nat.reduceSub, List.replicate, List.cons_append, List.nil_append])
      (repeat (first | ((first | (refine And.intro ?_ ?_; focus exact PLA) | refine WA_seq (WA_region ?_) | refine WA_region ?_ | refine WA_exit ?_); try simp (maxSteps := 1000000) (disch := first | omega | rfl | decide | (simp only [List.length_cons, List.length_nil, List.length_append, Bs_length, Is_length, Vs_length, Bl_length, Il_length] <;> omega)) only [go_sem, Nat.reduceAdd, Int.reduceAdd, Int.reduceSub, Int.reduceMul, Bool.not_true, Bool.not_false, hb, look_set hbl, List.set_set, hc2, hz, decide_eq_true ha, show IntKind.u64.wrap (IntKind.u64.wrap (hs * 6364136223846793005) + 1442695040888963407) = nxH hs from rfl, e]) | (refine WA_seq (WA_draw (id := 5) mixedOk (by kernel_rfl) ?_); simp (maxSteps := 1000000) (disch := first | omega | rfl | decide | (simp only [List.length_cons, List.length_nil, List.length_append, Bs_length, Is_length, Vs_length, Bl_length, Il_length] <;> omega)) only [go_sem, Nat.reduceAdd, Int.reduceAdd, Int.reduceSub, Int.reduceMul, Bool.not_true, Bool.not_false, hb, look_set hbl, List.set_set, hc2, hz, decide_eq_true ha, show IntKind.u64.wrap (IntKind.u64.wrap (hs * 6364136223846793005) + 1442695040888963407) = nxH hs from rfl, e]) | (refine WA_draw (id := 5) mixedOk (by kernel_rfl) ?_; simp (maxSteps := 1000000) (disch := first | omega | rfl | decide | (simp only [List.length_cons, List.length_nil, List.length_append, Bs_length, Is_length, Vs_length, Bl_length, Il_length] <;> omega)) only [go_sem, Nat.reduceAdd, Int.reduceAdd, Int.reduceSub, Int.reduceMul, Bool.not_true, Bool.not_false, hb, look_set hbl, List.set_set, hc2, hz, decide_eq_true ha, show IntKind.u64.wrap (IntKind.u64.wrap (hs * 6364136223846793005) + 1442695040888963407) = nxH hs from rfl, e]) | (refine WA_seq (WA_draw (id := 6) mixedOk (by kernel_rfl) ?_); simp (maxSteps := 1000000) (disch := first | omega | rfl | decide | (simp only [List.length_cons, List.length_nil, List.length_append, Bs_length, Is_length, Vs_length, Bl_length, Il_length] <;> omega)) only [go_sem, Nat.reduceAdd, Int.reduceAdd, Int.reduceSub, Int.reduceMul, Bool.not_true, Bool.not_false, hb, look_set hbl, List.set_set, hc2, hz, decide_eq_true ha, show IntKind.u64.wrap (IntKind.u64.wrap (hs * 6364136223846793005) + 1442695040888963407) = nxH hs from rfl, e]) | (refine WA_draw (id := 6) mixedOk (by kernel_rfl) ?_; simp (maxSteps := 1000000) (disch := first | omega | rfl | decide | (simp only [List.length_cons, List.length_nil, List.length_append, Bs_length, Is_length, Vs_length, Bl_length, Il_length] <;> omega)) only [go_sem, Nat.reduceAdd, Int.reduceAdd, Int.reduceSub, Int.reduceMul, Bool.not_true, Bool.not_false, hb, look_set hbl, List.set_set, hc2, hz, decide_eq_true ha, show IntKind.u64.wrap (IntKind.u64.wrap (hs * 6364136223846793005) + 1442695040888963407) = nxH hs from rfl, e]) | refine WA_seq ?_ | refine WA_block ?_ | (refine WA_skip ?_; try simp only [go_sem]) | (refine WA_ret ?_; try simp only [go_sem]) | refine WA_ct rfl ?_ | refine WA_cf rfl ?_))
      ((first | refine ret_nA ?_ | refine ret_sA ?_ | refine ret_fA ?_); simp (maxSteps := 1000000) (disch := first | omega | rfl | decide | (simp only [List.length_cons, List.length_nil, List.length_append, Bs_length, Is_length, Vs_length, Bl_length, Il_length] <;> omega)) only [go_sem, Nat.reduceAdd, Int.reduceAdd, Int.reduceSub, Int.reduceMul, Bool.not_true, Bool.not_false]; try rfl)
    · refine ⟨q % N, ⟨Sr _ a (nxH hs), true⟩, Nat.mod_lt _ hN, ⟨a, _, n, f, rfl, h1, h2, .sl f hc hne⟩, ?_⟩
      (refine AC_begin (fun _ _ => Try.call14 _ _) Try.func14 rfl Try.ntmps14 Try.results14 (fun hwf => ?_); simp only [List.length_cons, List.length_nil, Nat.reduceAdd, Nat.reduceSub, List.replicate, List.cons_append, List.nil_append])
      (repeat (first | ((first | (refine And.intro ?_ ?_; focus exact PLA) | refine WA_seq (WA_region ?_) | refine WA_region ?_ | refine WA_exit ?_); try simp (maxSteps := 1000000) (disch := first | omega | rfl | decide | (simp only [List.length_cons, List.length_nil, List.length_append, Bs_length, Is_length, Vs_length, Bl_length, Il_length] <;> omega)) only [go_sem, Nat.reduceAdd, Int.reduceAdd, Int.reduceSub, Int.reduceMul, Bool.not_true, Bool.not_false, hb, look_set hbl, List.set_set, hz, decide_eq_false ha, show IntKind.u64.wrap (IntKind.u64.wrap (hs * 6364136223846793005) + 1442695040888963407) = nxH hs from rfl, e]) | (refine WA_seq (WA_draw (id := 5) mixedOk (by kernel_rfl) ?_); simp (maxSteps := 1000000) (disch := first | omega | rfl | decide | (simp only [List.length_cons, List.length_nil, List.length_append, Bs_length, Is_length, Vs_length, Bl_length, Il_length] <;> omega)) only [go_sem, Nat.reduceAdd, Int.reduceAdd, Int.reduceSub, Int.reduceMul, Bool.not_true, Bool.not_false, hb, look_set hbl, List.set_set, hz, decide_eq_false ha, show IntKind.u64.wrap (IntKind.u64.wrap (hs * 6364136223846793005) + 1442695040888963407) = nxH hs from rfl, e]) | (refine WA_draw (id := 5) mixedOk (by kernel_rfl) ?_; simp (maxSteps := 1000000) (disch := first | omega | rfl | decide | (simp only [List.length_cons, List.length_nil, List.length_append, Bs_length, Is_length, Vs_length, Bl_length, Il_length] <;> omega)) only [go_sem, Nat.reduceAdd, Int.reduceAdd, Int.reduceSub, Int.reduceMul, Bool.not_true, Bool.not_false, hb, look_set hbl, List.set_set, hz, decide_eq_false ha, show IntKind.u64.wrap (IntKind.u64.wrap (hs * 6364136223846793005) + 1442695040888963407) = nxH hs from rfl, e]) | (refine WA_seq (WA_draw (id := 6) mixedOk (by kernel_rfl) ?_); simp (maxSteps := 1000000) (disch := first | omega | rfl | decide | (simp only [List.length_cons, List.length_nil, List.length_append, Bs_length, Is_length, Vs_length, Bl_length, Il_length] <;> omega)) only [go_sem, Nat.reduceAdd, Int.reduceAdd, Int.reduceSub, Int.reduceMul, Bool.not_true, Bool.not_false, hb, look_set hbl, List.set_set, hz, decide_eq_false ha, show IntKind.u64.wrap (IntKind.u64.wrap (hs * 6364136223846793005) + 1442695040888963407) = nxH hs from rfl, e]) | (refine WA_draw (id := 6) mixedOk (by kernel_rfl) ?_; simp (maxSteps := 1000000) (disch := first | omega | rfl | decide | (simp only [List.length_cons, List.length_nil, List.length_append, Bs_length, Is_length, Vs_length, Bl_length, Il_length] <;> omega)) only [go_sem, Nat.reduceAdd, Int.reduceAdd, Int.reduceSub, Int.reduceMul, Bool.not_true, Bool.not_false, hb, look_set hbl, List.set_set, hz, decide_eq_false ha, show IntKind.u64.wrap (IntKind.u64.wrap (hs * 6364136223846793005) + 1442695040888963407) = nxH hs from rfl, e]) | refine WA_seq ?_ | refine WA_block ?_ | (refine WA_skip ?_; try simp only [go_sem]) | (refine WA_ret ?_; try simp only [go_sem]) | refine WA_ct rfl ?_ | refine WA_cf rfl ?_))
      ((first | refine ret_nA ?_ | refine ret_sA ?_ | refine ret_fA ?_); simp (maxSteps := 1000000) (disch := first | omega | rfl | decide | (simp only [List.length_cons, List.length_nil, List.length_append, Bs_length, Is_length, Vs_length, Bl_length, Il_length] <;> omega)) only [go_sem, Nat.reduceAdd, Int.reduceAdd, Int.reduceSub, Int.reduceMul, Bool.not_true, Bool.not_false]; try rfl)
theorem below_aft {h : List Blk} {b : Nat} {cv : Value} (s : SrcAt h b cv) {N : Nat} (hN : 0 < N) (hN2 : N ≤ 1125899906842624) :
    ∃ (x : Nat) (h' : List Blk), x < N ∧ Aft h h' b cv ∧ AC Try.prog 14 [pt b 0, .int .i64 N] h (.int .i64 x) h' := by
  obtain ⟨k, hb, hk⟩ := s
  obtain ⟨x, k', hx, hk', hc⟩ := below_ex hb hk hN hN2
  exact ⟨x, _, hx, aft_set (blt hb) hk', hc⟩

/-- The state of dice after k bytes. -/
def dcH (s0 : Int) (f : Nat → UInt8) : Nat → Int
  | 0 => s0
  | k + 1 => IntKind.u64.wrap (IntKind.u64.wrap (IntKind.u64.wrap (dcH s0 f k * 1099511628211) + ((f k).toNat : Int)) + 5)
theorem roll_aft {h : List Blk} {cv : Value} (c : Cv h cv) (sd : Nat) (hsd : sd ≤ 1000000) : ∃ h', SrcAt h' h.length cv ∧ (∃ L, h' = h ++ L) ∧ AC Try.prog 13 [cv, .int .u64 sd] h (pt h.length 0) h' := by
  cases c with
  | nil =>
    refine ⟨h ++ [⟨Sr (.slice none 0 0) ((0 : Nat) : Int) ((sd * 6907 + 0 : Nat) : Int), true⟩], ⟨⟨Sr (.slice none 0 0) ((0 : Nat) : Int) ((sd * 6907 + 0 : Nat) : Int), true⟩, by simp, 0, _, 0, fun _ => 0, rfl, Nat.le_refl _, by omega, .nil _⟩, ⟨_, rfl⟩, ?_⟩
    (refine AC_begin (fun _ _ => Try.call13 _ _) Try.func13 rfl Try.ntmps13 Try.results13 (fun hwf => ?_); simp only [List.length_cons, List.length_nil, Nat.reduceAdd, Nat.reduceSub, List.replicate, List.cons_append, List.nil_append])
    (repeat (first | ((first | (refine And.intro ?_ ?_; focus exact PLA) | refine WA_seq (WA_region ?_) | refine WA_region ?_ | refine WA_exit ?_); try simp (maxSteps := 1000000) (disch := first | omega | rfl | decide | (simp only [List.length_cons, List.length_nil, List.length_append, Bs_length, Is_length, Vs_length, Bl_length, Il_length] <;> omega)) only [go_sem, Nat.reduceAdd, Int.reduceAdd, Int.reduceSub, Int.reduceMul, Bool.not_true, Bool.not_false]) | (refine (WA_rb (id := 5) [15] (SubM.refl _) mixedOk ?_); simp only [List.size_toArray, List.length_cons, List.length_nil]; (repeat (first | ((first | (refine And.intro ?_ ?_; focus exact PLA) | refine RB_take false [0, 1, 2, 3, 6, 7, 8] 9 (by rfl) (by kernel_rfl) (by decide) (by decide +kernel) ?_ | refine RB_take true [4, 9] 7 (by rfl) (by kernel_rfl) (by decide) (by decide +kernel) ?_ | refine RB_take false [5, 10, 11, 12, 13, 14] 1 (by rfl) (by kernel_rfl) (by decide) (by decide +kernel) ?_ | refine RB_exec 15 _ (by rfl) (by decide +kernel) (by decide +kernel) ?_ | refine RB_done (by decide +kernel) ?_); try simp (maxSteps := 1000000) (disch := first | omega | rfl | decide | (simp only [List.length_cons, List.length_nil, List.length_append, Bs_length, Is_length, Vs_length, Bl_length, Il_length] <;> omega)) only [go_sem, Nat.reduceAdd, Int.reduceAdd, Int.reduceSub, Int.reduceMul, Bool.not_true, Bool.not_false])))) | refine WA_seq ?_ | refine WA_block ?_ | (refine WA_skip ?_; try simp only [go_sem]) | (refine WA_ret ?_; try simp only [go_sem]) | refine WA_ct rfl ?_ | refine WA_cf rfl ?_))
    refine WA_forP (fun k => [(6, .int .i64 k), (16, J), (17, J), (18, J), (19, J), (20, J), (21, J), (22, J), (23, J), (24, J), (25, J), (26, J), (27, J), (28, J), (29, J), (30, J), (31, J), (32, J), (33, J), (34, J), (35, J), (36, J)]) (fun k => []) (0) ?_ ?_ ?_ <;> (try simp only [patT_cons, patT_nil, patL_cons, patL_nil, list_set_zero, list_set_succ, blk_set_zero, blk_set_succ])
    · (refine Drop_slots (by first | exact Nat.le_refl _ | simp) ?_; focus ((try simp only [JL_same, JL_J, JL_nil, Int.reduceAdd, Nat.sub_sub, Int.natCast_add, Int.natCast_one, Int.natCast_zero, Int.cast_ofNat_Int, Nat.add_zero, Bool.false_eq_true, if_false, if_true]); (try exact JL_refl _)))
    · intro k hk
      omega
    · (repeat (first | ((first | (refine And.intro ?_ ?_; focus exact PLA) | refine WA_seq (WA_region ?_) | refine WA_region ?_ | refine WA_exit ?_); try simp (maxSteps := 1000000) (disch := first | omega | rfl | decide | (simp only [List.length_cons, List.length_nil, List.length_append, Bs_length, Is_length, Vs_length, Bl_length, Il_length] <;> omega)) only [go_sem, Nat.reduceAdd, Int.reduceAdd, Int.reduceSub, Int.reduceMul, Bool.not_true, Bool.not_false, show decide ((0 : Nat) < 0) = false from rfl, show decide ((0 : Int) < 0) = false from rfl]) | refine WA_seq ?_ | refine WA_block ?_ | (refine WA_skip ?_; try simp only [go_sem]) | (refine WA_ret ?_; try simp only [go_sem]) | refine WA_ct rfl ?_ | refine WA_cf rfl ?_))
      ((first | refine ret_nA ?_ | refine ret_sA ?_ | refine ret_fA ?_); simp (maxSteps := 1000000) (disch := first | omega | rfl | decide | (simp only [List.length_cons, List.length_nil, List.length_append, Bs_length, Is_length, Vs_length, Bl_length, Il_length] <;> omega)) only [go_sem, Nat.reduceAdd, Int.reduceAdd, Int.reduceSub, Int.reduceMul, Bool.not_true, Bool.not_false]; try rfl)
  | @sl bc n f rc hb hn =>
    have hbl := blt hb
    refine ⟨h ++ [⟨Sr (sl bc 0 n 1) ((0 : Nat) : Int) (dcH ((sd * 6907 + n : Nat) : Int) f n), true⟩], ⟨⟨Sr (sl bc 0 n 1) ((0 : Nat) : Int) (dcH ((sd * 6907 + n : Nat) : Int) f n), true⟩, by simp, 0, _, n, f, rfl, Nat.zero_le _, hn, .sl f (look_old hb _) (by omega)⟩, ⟨_, rfl⟩, ?_⟩
    (refine AC_begin (fun _ _ => Try.call13 _ _) Try.func13 rfl Try.ntmps13 Try.results13 (fun hwf => ?_); simp only [List.length_cons, List.length_nil, Nat.reduceAdd, Nat.reduceSub, List.replicate, List.cons_append, List.nil_append])
    (repeat (first | ((first | (refine And.intro ?_ ?_; focus exact PLA) | refine WA_seq (WA_region ?_) | refine WA_region ?_ | refine WA_exit ?_); try simp (maxSteps := 1000000) (disch := first | omega | rfl | decide | (simp only [List.length_cons, List.length_nil, List.length_append, Bs_length, Is_length, Vs_length, Bl_length, Il_length] <;> omega)) only [go_sem, Nat.reduceAdd, Int.reduceAdd, Int.reduceSub, Int.reduceMul, Bool.not_true, Bool.not_false]) | (refine (WA_rb (id := 5) [15] (SubM.refl _) mixedOk ?_); simp only [List.size_toArray, List.length_cons, List.length_nil]; (repeat (first | ((first | (refine And.intro ?_ ?_; focus exact PLA) | refine RB_take false [0, 1, 2, 3, 6, 7, 8] 9 (by rfl) (by kernel_rfl) (by decide) (by decide +kernel) ?_ | refine RB_take true [4, 9] 7 (by rfl) (by kernel_rfl) (by decide) (by decide +kernel) ?_ | refine RB_take false [5, 10, 11, 12, 13, 14] 1 (by rfl) (by kernel_rfl) (by decide) (by decide +kernel) ?_ | refine RB_exec 15 _ (by rfl) (by decide +kernel) (by decide +kernel) ?_ | refine RB_done (by decide +kernel) ?_); try simp (maxSteps := 1000000) (disch := first | omega | rfl | decide | (simp only [List.length_cons, List.length_nil, List.length_append, Bs_length, Is_length, Vs_length, Bl_length, Il_length] <;> omega)) only [go_sem, Nat.reduceAdd, Int.reduceAdd, Int.reduceSub, Int.reduceMul, Bool.not_true, Bool.not_false])))) | refine WA_seq ?_ | refine WA_block ?_ | (refine WA_skip ?_; try simp only [go_sem]) | (refine WA_ret ?_; try simp only [go_sem]) | refine WA_ct rfl ?_ | refine WA_cf rfl ?_))
    refine WA_forP (fun k => [(6, .int .i64 k), (16, J), (17, J), (18, J), (19, J), (20, J), (21, J), (22, J), (23, J), (24, J), (25, J), (26, J), (27, J), (28, J), (29, J), (30, J), (31, J), (32, J), (33, J), (34, J), (35, J), (36, J)]) (fun k => [(0, ⟨Sr (sl bc 0 n 1) ((0 : Nat) : Int) (dcH ((sd * 6907 + n : Nat) : Int) f k), true⟩)]) (n) ?_ ?_ ?_ <;> (try simp only [patT_cons, patT_nil, patL_cons, patL_nil, list_set_zero, list_set_succ, blk_set_zero, blk_set_succ])
    · (refine Drop_slots (by first | exact Nat.le_refl _ | simp) ?_; focus ((try simp only [JL_same, JL_J, JL_nil, Int.reduceAdd, Nat.sub_sub, Int.natCast_add, Int.natCast_one, Int.natCast_zero, Int.cast_ofNat_Int, Nat.add_zero, Bool.false_eq_true, if_false, if_true]); (try exact JL_refl _)))
    · intro k hk
      have hx := u8_lt (f k)
      (repeat (first | ((first | (refine And.intro ?_ ?_; focus exact PLA) | refine WA_seq (WA_region ?_) | refine WA_region ?_ | refine WA_exit ?_); try simp (maxSteps := 1000000) (disch := first | omega | rfl | decide | (simp only [List.length_cons, List.length_nil, List.length_append, Bs_length, Is_length, Vs_length, Bl_length, Il_length] <;> omega)) only [go_sem, Nat.reduceAdd, Int.reduceAdd, Int.reduceSub, Int.reduceMul, Bool.not_true, Bool.not_false, look_old hb, decide_eq_true hk, show IntKind.u64.wrap (IntKind.u64.wrap (IntKind.u64.wrap (dcH ((sd * 6907 + n : Nat) : Int) f k * 1099511628211) + ((f k).toNat : Int)) + 5) = dcH ((sd * 6907 + n : Nat) : Int) f (k + 1) from rfl]) | (refine (WA_rb (id := 5) [15] (SubM.refl _) mixedOk ?_); simp only [List.size_toArray, List.length_cons, List.length_nil]; (repeat (first | ((first | (refine And.intro ?_ ?_; focus exact PLA) | refine RB_take false [0, 1, 2, 3, 6, 7, 8] 9 (by rfl) (by kernel_rfl) (by decide) (by decide +kernel) ?_ | refine RB_take true [4, 9] 7 (by rfl) (by kernel_rfl) (by decide) (by decide +kernel) ?_ | refine RB_take false [5, 10, 11, 12, 13, 14] 1 (by rfl) (by kernel_rfl) (by decide) (by decide +kernel) ?_ | refine RB_exec 15 _ (by rfl) (by decide +kernel) (by decide +kernel) ?_ | refine RB_done (by decide +kernel) ?_); try simp (maxSteps := 1000000) (disch := first | omega | rfl | decide | (simp only [List.length_cons, List.length_nil, List.length_append, Bs_length, Is_length, Vs_length, Bl_length, Il_length] <;> omega)) only [go_sem, Nat.reduceAdd, Int.reduceAdd, Int.reduceSub, Int.reduceMul, Bool.not_true, Bool.not_false, look_old hb, decide_eq_true hk, show IntKind.u64.wrap (IntKind.u64.wrap (IntKind.u64.wrap (dcH ((sd * 6907 + n : Nat) : Int) f k * 1099511628211) + ((f k).toNat : Int)) + 5) = dcH ((sd * 6907 + n : Nat) : Int) f (k + 1) from rfl])))) | refine WA_seq ?_ | refine WA_block ?_ | (refine WA_skip ?_; try simp only [go_sem]) | (refine WA_ret ?_; try simp only [go_sem]) | refine WA_ct rfl ?_ | refine WA_cf rfl ?_))
      (refine Drop_slots (by first | exact Nat.le_refl _ | simp) ?_; focus ((try simp only [JL_same, JL_J, JL_nil, Int.reduceAdd, Nat.sub_sub, Int.natCast_add, Int.natCast_one, Int.natCast_zero, Int.cast_ofNat_Int, Nat.add_zero, Bool.false_eq_true, if_false, if_true]); (try exact JL_refl _)))
    · (repeat (first | ((first | (refine And.intro ?_ ?_; focus exact PLA) | refine WA_seq (WA_region ?_) | refine WA_region ?_ | refine WA_exit ?_); try simp (maxSteps := 1000000) (disch := first | omega | rfl | decide | (simp only [List.length_cons, List.length_nil, List.length_append, Bs_length, Is_length, Vs_length, Bl_length, Il_length] <;> omega)) only [go_sem, Nat.reduceAdd, Int.reduceAdd, Int.reduceSub, Int.reduceMul, Bool.not_true, Bool.not_false, show decide (n < n) = false from decide_eq_false (Nat.lt_irrefl n)]) | refine WA_seq ?_ | refine WA_block ?_ | (refine WA_skip ?_; try simp only [go_sem]) | (refine WA_ret ?_; try simp only [go_sem]) | refine WA_ct rfl ?_ | refine WA_cf rfl ?_))
      ((first | refine ret_nA ?_ | refine ret_sA ?_ | refine ret_fA ?_); simp (maxSteps := 1000000) (disch := first | omega | rfl | decide | (simp only [List.length_cons, List.length_nil, List.length_append, Bs_length, Is_length, Vs_length, Bl_length, Il_length] <;> omega)) only [go_sem, Nat.reduceAdd, Int.reduceAdd, Int.reduceSub, Int.reduceMul, Bool.not_true, Bool.not_false]; try rfl)

end Go.Proofs.Ytapiaenodhhgdaa
/- What FnPlaces needs: cycles told with memory opaque, rows compared. -/
namespace Go.Proofs.Ytapiaenodhhgdaa
set_option linter.unusedSimpArgs false
set_option linter.unusedVariables false
set_option maxRecDepth 20000
set_option maxHeartbeats 1000000
open Go.Abs

attribute [local irreducible] cyC cyRow
/-- The cycles of places, as returned. -/
inductive CyV (p : Nat → UInt8) (h : List Blk) : Value → Prop
  | no (hp : plOk p = false) : CyV p h (.slice none 0 0)
  | ok (hp : plOk p = true) {b : Nat} {g : Nat → Nat} {r r' : Bool} (hb : h[b]? = some ⟨Vs (cyC p 16) fun j => sl (g j) 0 (cyRow p j).length 1, r⟩) (hr : ∀ j, j < cyC p 16 → h[g j]? = some ⟨Il (cyRow p j), r'⟩) : CyV p h (sl b 0 (cyC p 16) 1)
theorem CyV.app {p : Nat → UInt8} {h : List Blk} {v : Value} (c : CyV p h v) (L : List Blk) : CyV p (h ++ L) v := by
  cases c with
  | no hp => exact .no hp
  | ok hp hb hr => exact .ok hp (look_old hb L) fun j hj => look_old (hr j hj) L
theorem app_tr {h H K : List Blk} (e : ∃ A, H = h ++ A) (e2 : ∃ A, K = H ++ A) : ∃ A, K = h ++ A := by
  obtain ⟨A, rfl⟩ := e
  obtain ⟨B, rfl⟩ := e2
  exact ⟨A ++ B, List.append_assoc ..⟩
end Go.Proofs.Ytapiaenodhhgdaa
/- FnFieldEquations. -/
namespace Go.Proofs.Ytapiaenodhhgdaa
set_option linter.unusedSimpArgs false
set_option linter.unusedVariables false
set_option maxRecDepth 20000
set_option maxHeartbeats 1000000
open Go.Abs

theorem bytes5_ac {h : List Blk} {b b' n : Nat} {f : Nat → UInt8} {r r' : Bool} (hb : h[b]? = some ⟨Bs n f, r⟩) (hb' : h[b']? = some ⟨Bs n f, r'⟩) (hn : n ≤ 140737488355328) : AC Try.prog 18 [sl b 0 n 1, sl b' 0 n 1] h (.bool true) h := by
  (refine AC_begin (fun _ _ => Try.call18 _ _) Try.func18 rfl Try.ntmps18 Try.results18 (fun hwf => ?_); simp only [List.length_cons, List.length_nil, Nat.reduceAdd, Nat.reduceSub, List.replicate, List.cons_append, List.nil_append])
  (repeat (first | ((first | (refine And.intro ?_ ?_; focus exact PLA) | refine WA_seq (WA_region ?_) | refine WA_region ?_ | refine WA_exit ?_); try simp (maxSteps := 1000000) (disch := first | omega | rfl | decide | (simp only [List.length_cons, List.length_nil, List.length_append, Bs_length, Is_length, Vs_length, Bl_length, Il_length] <;> omega)) only [go_sem, Nat.reduceAdd, Int.reduceAdd, Int.reduceSub, Int.reduceMul, Bool.not_true, Bool.not_false, bne_self_eq_false]) | (refine WA_seq (WA_draw (id := 6) mixedOk (by kernel_rfl) ?_); simp (maxSteps := 1000000) (disch := first | omega | rfl | decide | (simp only [List.length_cons, List.length_nil, List.length_append, Bs_length, Is_length, Vs_length, Bl_length, Il_length] <;> omega)) only [go_sem, Nat.reduceAdd, Int.reduceAdd, Int.reduceSub, Int.reduceMul, Bool.not_true, Bool.not_false, bne_self_eq_false]) | (refine WA_draw (id := 6) mixedOk (by kernel_rfl) ?_; simp (maxSteps := 1000000) (disch := first | omega | rfl | decide | (simp only [List.length_cons, List.length_nil, List.length_append, Bs_length, Is_length, Vs_length, Bl_length, Il_length] <;> omega)) only [go_sem, Nat.reduceAdd, Int.reduceAdd, Int.reduceSub, Int.reduceMul, Bool.not_true, Bool.not_false, bne_self_eq_false]) | refine WA_seq ?_ | refine WA_block ?_ | (refine WA_skip ?_; try simp only [go_sem]) | (refine WA_ret ?_; try simp only [go_sem]) | refine WA_ct rfl ?_ | refine WA_cf rfl ?_))
  refine WA_forH (fun k => [(4, J), (5, .int .i64 k), (11, J), (12, J), (13, J), (14, J), (15, J), (16, J), (17, J), (18, J), (19, J), (20, J), (21, J), (22, J), (23, J), (24, J), (25, J)]) (fun k => h) (n) ?_ ?_ ?_ <;> (try simp only [patT_cons, patT_nil, patL_cons, patL_nil, list_set_zero, list_set_succ, blk_set_zero, blk_set_succ])
  · (refine Drop_slots (by first | exact Nat.le_refl _ | simp) ?_; focus ((try simp only [JL_same, JL_J, JL_nil, Int.reduceAdd, Nat.sub_sub, Int.natCast_add, Int.natCast_one, Int.natCast_zero, Int.cast_ofNat_Int, Nat.add_zero, Bool.false_eq_true, if_false, if_true]); (try exact JL_refl _)))
  · intro k hk
    (repeat (first | ((first | (refine And.intro ?_ ?_; focus exact PLA) | refine WA_seq (WA_region ?_) | refine WA_region ?_ | refine WA_exit ?_); try simp (maxSteps := 1000000) (disch := first | omega | rfl | decide | (simp only [List.length_cons, List.length_nil, List.length_append, Bs_length, Is_length, Vs_length, Bl_length, Il_length] <;> omega)) only [go_sem, Nat.reduceAdd, Int.reduceAdd, Int.reduceSub, Int.reduceMul, Bool.not_true, Bool.not_false, hb, hb', bne_self_eq_false]) | (refine WA_seq (WA_draw (id := 6) mixedOk (by kernel_rfl) ?_); simp (maxSteps := 1000000) (disch := first | omega | rfl | decide | (simp only [List.length_cons, List.length_nil, List.length_append, Bs_length, Is_length, Vs_length, Bl_length, Il_length] <;> omega)) only [go_sem, Nat.reduceAdd, Int.reduceAdd, Int.reduceSub, Int.reduceMul, Bool.not_true, Bool.not_false, hb, hb', bne_self_eq_false]) | (refine WA_draw (id := 6) mixedOk (by kernel_rfl) ?_; simp (maxSteps := 1000000) (disch := first | omega | rfl | decide | (simp only [List.length_cons, List.length_nil, List.length_append, Bs_length, Is_length, Vs_length, Bl_length, Il_length] <;> omega)) only [go_sem, Nat.reduceAdd, Int.reduceAdd, Int.reduceSub, Int.reduceMul, Bool.not_true, Bool.not_false, hb, hb', bne_self_eq_false]) | refine WA_seq ?_ | refine WA_block ?_ | (refine WA_skip ?_; try simp only [go_sem]) | (refine WA_ret ?_; try simp only [go_sem]) | refine WA_ct rfl ?_ | refine WA_cf rfl ?_))
    (refine Drop_slots (by first | exact Nat.le_refl _ | simp) ?_; focus ((try simp only [JL_same, JL_J, JL_nil, Int.reduceAdd, Nat.sub_sub, Int.natCast_add, Int.natCast_one, Int.natCast_zero, Int.cast_ofNat_Int, Nat.add_zero, Bool.false_eq_true, if_false, if_true]); (try exact JL_refl _)))
  · (repeat (first | ((first | (refine And.intro ?_ ?_; focus exact PLA) | refine WA_seq (WA_region ?_) | refine WA_region ?_ | refine WA_exit ?_); try simp (maxSteps := 1000000) (disch := first | omega | rfl | decide | (simp only [List.length_cons, List.length_nil, List.length_append, Bs_length, Is_length, Vs_length, Bl_length, Il_length] <;> omega)) only [go_sem, Nat.reduceAdd, Int.reduceAdd, Int.reduceSub, Int.reduceMul, Bool.not_true, Bool.not_false]) | (refine WA_seq (WA_draw (id := 6) mixedOk (by kernel_rfl) ?_); simp (maxSteps := 1000000) (disch := first | omega | rfl | decide | (simp only [List.length_cons, List.length_nil, List.length_append, Bs_length, Is_length, Vs_length, Bl_length, Il_length] <;> omega)) only [go_sem, Nat.reduceAdd, Int.reduceAdd, Int.reduceSub, Int.reduceMul, Bool.not_true, Bool.not_false]) | (refine WA_draw (id := 6) mixedOk (by kernel_rfl) ?_; simp (maxSteps := 1000000) (disch := first | omega | rfl | decide | (simp only [List.length_cons, List.length_nil, List.length_append, Bs_length, Is_length, Vs_length, Bl_length, Il_length] <;> omega)) only [go_sem, Nat.reduceAdd, Int.reduceAdd, Int.reduceSub, Int.reduceMul, Bool.not_true, Bool.not_false]) | refine WA_seq ?_ | refine WA_block ?_ | (refine WA_skip ?_; try simp only [go_sem]) | (refine WA_ret ?_; try simp only [go_sem]) | refine WA_ct rfl ?_ | refine WA_cf rfl ?_))
    ((first | refine ret_nA ?_ | refine ret_sA ?_ | refine ret_fA ?_); simp (maxSteps := 1000000) (disch := first | omega | rfl | decide | (simp only [List.length_cons, List.length_nil, List.length_append, Bs_length, Is_length, Vs_length, Bl_length, Il_length] <;> omega)) only [go_sem, Nat.reduceAdd, Int.reduceAdd, Int.reduceSub, Int.reduceMul, Bool.not_true, Bool.not_false]; try rfl)
theorem bytes5_nil (h : List Blk) : AC Try.prog 18 [.slice none 0 0, .slice none 0 0] h (.bool true) h := by
  (refine AC_begin (fun _ _ => Try.call18 _ _) Try.func18 rfl Try.ntmps18 Try.results18 (fun hwf => ?_); simp only [List.length_cons, List.length_nil, Nat.reduceAdd, Nat.reduceSub, List.replicate, List.cons_append, List.nil_append])
  (repeat (first | ((first | (refine And.intro ?_ ?_; focus exact PLA) | refine WA_seq (WA_region ?_) | refine WA_region ?_ | refine WA_exit ?_); try simp (maxSteps := 1000000) (disch := first | omega | rfl | decide | (simp only [List.length_cons, List.length_nil, List.length_append, Bs_length, Is_length, Vs_length, Bl_length, Il_length] <;> omega)) only [go_sem, Nat.reduceAdd, Int.reduceAdd, Int.reduceSub, Int.reduceMul, Bool.not_true, Bool.not_false, bne_self_eq_false]) | (refine WA_seq (WA_draw (id := 6) mixedOk (by kernel_rfl) ?_); simp (maxSteps := 1000000) (disch := first | omega | rfl | decide | (simp only [List.length_cons, List.length_nil, List.length_append, Bs_length, Is_length, Vs_length, Bl_length, Il_length] <;> omega)) only [go_sem, Nat.reduceAdd, Int.reduceAdd, Int.reduceSub, Int.reduceMul, Bool.not_true, Bool.not_false, bne_self_eq_false]) | (refine WA_draw (id := 6) mixedOk (by kernel_rfl) ?_; simp (maxSteps := 1000000) (disch := first | omega | rfl | decide | (simp only [List.length_cons, List.length_nil, List.length_append, Bs_length, Is_length, Vs_length, Bl_length, Il_length] <;> omega)) only [go_sem, Nat.reduceAdd, Int.reduceAdd, Int.reduceSub, Int.reduceMul, Bool.not_true, Bool.not_false, bne_self_eq_false]) | refine WA_seq ?_ | refine WA_block ?_ | (refine WA_skip ?_; try simp only [go_sem]) | (refine WA_ret ?_; try simp only [go_sem]) | refine WA_ct rfl ?_ | refine WA_cf rfl ?_))
  refine WA_forH (fun k => [(4, J), (5, .int .i64 k), (11, J), (12, J), (13, J), (14, J), (15, J), (16, J), (17, J), (18, J), (19, J), (20, J), (21, J), (22, J), (23, J), (24, J), (25, J)]) (fun k => h) (0) ?_ ?_ ?_ <;> (try simp only [patT_cons, patT_nil, patL_cons, patL_nil, list_set_zero, list_set_succ, blk_set_zero, blk_set_succ])
  · (refine Drop_slots (by first | exact Nat.le_refl _ | simp) ?_; focus ((try simp only [JL_same, JL_J, JL_nil, Int.reduceAdd, Nat.sub_sub, Int.natCast_add, Int.natCast_one, Int.natCast_zero, Int.cast_ofNat_Int, Nat.add_zero, Bool.false_eq_true, if_false, if_true]); (try exact JL_refl _)))
  · intro k hk
    omega
  · (repeat (first | ((first | (refine And.intro ?_ ?_; focus exact PLA) | refine WA_seq (WA_region ?_) | refine WA_region ?_ | refine WA_exit ?_); try simp (maxSteps := 1000000) (disch := first | omega | rfl | decide | (simp only [List.length_cons, List.length_nil, List.length_append, Bs_length, Is_length, Vs_length, Bl_length, Il_length] <;> omega)) only [go_sem, Nat.reduceAdd, Int.reduceAdd, Int.reduceSub, Int.reduceMul, Bool.not_true, Bool.not_false, show decide ((0 : Nat) < 0) = false from rfl, show decide ((0 : Int) < 0) = false from rfl]) | (refine WA_seq (WA_draw (id := 6) mixedOk (by kernel_rfl) ?_); simp (maxSteps := 1000000) (disch := first | omega | rfl | decide | (simp only [List.length_cons, List.length_nil, List.length_append, Bs_length, Is_length, Vs_length, Bl_length, Il_length] <;> omega)) only [go_sem, Nat.reduceAdd, Int.reduceAdd, Int.reduceSub, Int.reduceMul, Bool.not_true, Bool.not_false, show decide ((0 : Nat) < 0) = false from rfl, show decide ((0 : Int) < 0) = false from rfl]) | (refine WA_draw (id := 6) mixedOk (by kernel_rfl) ?_; simp (maxSteps := 1000000) (disch := first | omega | rfl | decide | (simp only [List.length_cons, List.length_nil, List.length_append, Bs_length, Is_length, Vs_length, Bl_length, Il_length] <;> omega)) only [go_sem, Nat.reduceAdd, Int.reduceAdd, Int.reduceSub, Int.reduceMul, Bool.not_true, Bool.not_false, show decide ((0 : Nat) < 0) = false from rfl, show decide ((0 : Int) < 0) = false from rfl]) | refine WA_seq ?_ | refine WA_block ?_ | (refine WA_skip ?_; try simp only [go_sem]) | (refine WA_ret ?_; try simp only [go_sem]) | refine WA_ct rfl ?_ | refine WA_cf rfl ?_))
    ((first | refine ret_nA ?_ | refine ret_sA ?_ | refine ret_fA ?_); simp (maxSteps := 1000000) (disch := first | omega | rfl | decide | (simp only [List.length_cons, List.length_nil, List.length_append, Bs_length, Is_length, Vs_length, Bl_length, Il_length] <;> omega)) only [go_sem, Nat.reduceAdd, Int.reduceAdd, Int.reduceSub, Int.reduceMul, Bool.not_true, Bool.not_false]; try rfl)

theorem twiceP_ne {f : Nat → UInt8} {n : Nat} (h : twiceP f n = false) : ∀ i j, i < n → j < n → i ≠ j → f i ≠ f j := by
  have key : ∀ i j, i < n → j < i → f i ≠ f j := fun i j hi hj e => by
    have := List.any_eq_false.1 h i (List.mem_range.2 hi)
    refine this (List.any_eq_true.2 ⟨j, List.mem_range.2 hj, ?_⟩)
    rw [e]; exact beq_self_eq_true _
  intro i j hi hj hij e
  rcases Nat.lt_or_gt_of_ne hij with hl | hl
  · exact key j i hj hl e.symm
  · exact key i j hi hl e
theorem vlI_back {p n : Nat} (hp : fieldB p = true) (h0 : 256 ≤ p) (h1 : p < 512) (hn : n ≤ 40) {f g : Nat → UInt8} (ht : twiceP f n = false) {k : Nat} (hk : k < n) : vlI (p : Int) n (outS p f g n n) (f k) = g k := by
  unfold vlI
  rw [Int.toNat_natCast, hp, decide_eq_true hn]
  exact outS_back h0 h1 hp f g n (twiceP_ne ht) hk
theorem fcV_ok {p n : Nat} (hp : fieldB p = true) (hn : n ≤ 40) : fcV (p : Int) n = 0 := by
  unfold fcV
  rw [Int.toNat_natCast, hp, decide_eq_true hn]; rfl
attribute [local irreducible] vlI fcV trI rtI qdI fcQ tmI fcN outS hor
set_option maxHeartbeats 16000000 in
theorem fnFieldEquations_ok {h : List Blk} {cv : Value} (c : Cv h cv) : AC Try.prog 3 [cv] h (.bool true) h := by
  have hbg := big_ac c
  obtain ⟨m, a, H1, e1, v1, d1⟩ := drQua_op c
  obtain ⟨H2, e2, v2, p2⟩ : ∃ H2, (∃ A, H2 = h ++ A) ∧ Cv H2 cv ∧ ((fieldB m.toNat = false ∧ H2 = H1) ∨ (fieldB m.toNat = true ∧ ∃ (x : Nat) (M : List Blk), x < 256 ∧ AC Try.prog 13 [cv, .int .u64 901] H1 (pt H1.length 0) M ∧ AC Try.prog 14 [pt H1.length 0, .int .i64 256] M (.int .i64 x) H2)) := by
    cases hf : fieldB m.toNat
    · exact ⟨H1, e1, v1, .inl ⟨rfl, rfl⟩⟩
    · obtain ⟨M, s1, eM, r1⟩ := roll_aft v1 901 (by omega)
      obtain ⟨x, H2, hx, a1, b1⟩ := below_aft s1 (N := 256) (by omega) (by omega)
      have e2 := a1.app H1 (Nat.le_refl _) eM
      exact ⟨H2, app_tr e1 e2, (by obtain ⟨A, rfl⟩ := e2; exact v1.app A), .inr ⟨rfl, x, M, hx, r1, b1⟩⟩
  obtain ⟨m3, n, bp, f, n', bv, g, H3, ⟨hn, hn'⟩, k1, k2, e3, v3, d3⟩ := drItp_op v2
  have E3 := app_tr e2 e3
  have n1 := app_len e1
  have n2 := app_len e2
  have n3 := app_len E3
  (refine AC_begin (fun _ _ => Try.call3 _ _) Try.func3 rfl Try.ntmps3 Try.results3 (fun hwf => ?_); simp only [List.length_cons, List.length_nil, Nat.reduceAdd, Nat.reduceSub, List.replicate, List.cons_append, List.nil_append])
  (repeat (first | ((first | (refine And.intro ?_ ?_; focus exact PLA) | ((first | with_reducible apply callB_i | with_reducible apply callK_intro | with_reducible apply callQ_i); (focus (first | assumption | ((first | with_reducible apply hbg | with_reducible apply d1 | with_reducible apply quaI_ac | with_reducible apply quaS_ac | with_reducible apply traI_ac | with_reducible apply traS_ac | with_reducible apply rooI_ac | with_reducible apply rooS_ac) <;> (first | assumption | rfl | (simp (disch := omega) only [go_sem]; first | done | rfl) | omega | decide | (simp; done))))); (try exact WP_au)) | refine WA_seq (WA_region (id := 0) ?_) | refine WA_region (id := 0) ?_ | refine WA_seq (WA_region (id := 1) ?_) | refine WA_region (id := 1) ?_ | refine WA_seq (WA_region (id := 2) ?_) | refine WA_region (id := 2) ?_ | refine WA_seq (WA_region (id := 3) ?_) | refine WA_region (id := 3) ?_ | refine WA_seq (WA_region (id := 4) ?_) | refine WA_region (id := 4) ?_ | refine WA_seq (WA_region (id := 5) ?_) | refine WA_region (id := 5) ?_ | refine WA_seq (WA_region (id := 6) ?_) | refine WA_region (id := 6) ?_ | refine WA_seq (WA_region (id := 7) ?_) | refine WA_region (id := 7) ?_ | refine WA_seq (WA_region (id := 8) ?_) | refine WA_region (id := 8) ?_ | refine WA_seq (WA_region (id := 9) ?_) | refine WA_region (id := 9) ?_ | refine WA_seq (WA_region (id := 10) ?_) | refine WA_region (id := 10) ?_ | refine WA_seq (WA_region (id := 11) ?_) | refine WA_region (id := 11) ?_ | refine WA_exit ?_); try simp (maxSteps := 1000000) (disch := first | omega | rfl | decide | (simp only [List.length_cons, List.length_nil, List.length_append, Bs_length, Is_length, Vs_length, Bl_length, Il_length] <;> omega)) only [go_sem, Nat.reduceAdd, Int.reduceAdd, Int.reduceSub, Int.reduceMul, Bool.not_true, Bool.not_false, bne_self_eq_false, yieldA_at 2 126, yieldA_at 2 153, yieldA_at 2 181, yieldA_at 2 246, yieldA_at 3 90, yieldA_at 3 215, yieldA_at 3 277, yieldA_at 6 185, yieldA_at 7 131, yieldA_at 8 95, yieldA_at 11 135, yieldA_at 13 100, yieldA_at 18 105, yieldA_at 23 110]) | refine WA_seq ?_ | refine WA_block ?_ | (refine WA_skip ?_; try simp only [go_sem]) | (refine WA_ret ?_; try simp only [go_sem]) | refine WA_ct rfl ?_ | refine WA_cf rfl ?_))
  refine WA_mid2 [(2, J), (17, J), (18, J), (19, J), (20, J), (21, J), (22, J), (23, J), (24, J), (25, J), (26, J), (115, J), (116, J), (117, J), (118, J), (119, J), (120, J), (121, J), (122, J), (123, J), (124, J), (125, J), (126, J), (127, J), (128, J), (129, J), (130, J), (131, J), (132, J), (133, J), (134, J), (135, J), (136, J), (137, J), (138, J), (139, J), (140, J), (141, J), (142, J), (143, J), (144, J), (145, J), (146, J), (147, J), (148, J), (149, J), (150, J), (151, J), (152, J), (153, J), (154, J), (155, J), (156, J), (157, J), (158, J), (159, J), (160, J), (161, J), (162, J), (163, J), (164, J), (165, J), (166, J), (167, J), (168, J), (169, J), (170, J), (171, J), (172, J), (173, J), (174, J), (175, J), (176, J), (177, J), (178, J), (179, J), (180, J), (181, J), (182, J), (183, J), (184, J), (185, J), (186, J), (187, J), (188, J), (189, J), (190, J), (191, J)] (H2) ?_ ?_ <;> (try simp only [patT_cons, patT_nil, patL_cons, patL_nil, list_set_zero, list_set_succ, blk_set_zero, blk_set_succ])
  · rcases p2 with ⟨hf, rfl⟩ | ⟨hf, x, M, hx, r1, b1⟩
    · have hc : (fcN m == 0) = false := by rw [fcN_ok, hf]
      (repeat (first | ((first | (refine And.intro ?_ ?_; focus exact PLA) | refine WA_seq (WA_region ?_) | refine WA_region ?_ | refine WA_exit ?_); try simp (maxSteps := 1000000) (disch := first | omega | rfl | decide | (simp only [List.length_cons, List.length_nil, List.length_append, Bs_length, Is_length, Vs_length, Bl_length, Il_length] <;> omega)) only [go_sem, Nat.reduceAdd, Int.reduceAdd, Int.reduceSub, Int.reduceMul, Bool.not_true, Bool.not_false, hc, yieldA_at 2 126, yieldA_at 2 153, yieldA_at 2 181, yieldA_at 2 246, yieldA_at 3 90, yieldA_at 3 215, yieldA_at 3 277, yieldA_at 6 185, yieldA_at 7 131, yieldA_at 8 95, yieldA_at 11 135, yieldA_at 13 100, yieldA_at 18 105, yieldA_at 23 110]) | refine WA_seq ?_ | refine WA_block ?_ | (refine WA_skip ?_; try simp only [go_sem]) | (refine WA_ret ?_; try simp only [go_sem]) | refine WA_ct rfl ?_ | refine WA_cf rfl ?_))
      (refine Drop_slots (by first | assumption | exact Nat.le_refl _) ?_; focus ((try simp only [JL_same, JL_J, JL_nil, Int.reduceAdd, Nat.sub_sub, Int.natCast_add, Int.natCast_one, Int.natCast_zero, Int.cast_ofNat_Int, Nat.add_zero, Bool.false_eq_true, if_false, if_true]); (try exact JL_refl _)))
    · obtain ⟨p, rfl, hp, h0, h1⟩ := fieldB_nat hf
      have hc := fcN_is hp
      have hr : tmI (p : Int) (rtI (p : Int) a) (rtI (p : Int) a) = a := by
        rw [tmI_is hp]; unfold rtI; rw [Int.toNat_natCast, hp]; exact root_sq h0 h1 hp a
      have htr : ∀ z, trI (p : Int) z = tr p z := fun z => by unfold trI; rw [Int.toNat_natCast, hp]; rfl
      have hx1 : trI (p : Int) (a ^^^ UInt8.ofNat x) = trI (p : Int) a ^^^ trI (p : Int) (UInt8.ofNat x) := by rw [htr, htr, htr, tr_xor h0 h1]
      have hqt := qd_tr h0 h1 hp a
      by_cases hq : qd p a < 256
      · have hT : trI (p : Int) a = 0 := by rw [htr]; rw [decide_eq_true hq] at hqt; simpa using hqt.symm
        have hQ : fcQ (p : Int) a = 0 := by unfold fcQ; rw [Int.toNat_natCast, hp, decide_eq_true hq]; rfl
        have hX : tmI (p : Int) (qdI (p : Int) a) (qdI (p : Int) a) ^^^ qdI (p : Int) a = a := by
          rw [tmI_is hp]; unfold qdI; rw [Int.toNat_natCast, hp, decide_eq_true hq]; exact qd_end hq
        rw [hT] at hx1
        (repeat (first | ((first | (refine And.intro ?_ ?_; focus exact PLA) | ((first | with_reducible apply callB_i | with_reducible apply callK_intro | with_reducible apply callQ_i); (focus (first | assumption | ((first | with_reducible apply timI_ac | with_reducible apply r1 | with_reducible apply b1 | with_reducible apply traI_ac) <;> (first | assumption | rfl | (simp (disch := omega) only [go_sem]; first | done | rfl) | omega | decide | (simp; done))))); (try exact WP_au)) | refine WA_seq (WA_region ?_) | refine WA_region ?_ | refine WA_exit ?_); try simp (maxSteps := 1000000) (disch := first | omega | rfl | decide | (simp only [List.length_cons, List.length_nil, List.length_append, Bs_length, Is_length, Vs_length, Bl_length, Il_length] <;> omega)) only [go_sem, Nat.reduceAdd, Int.reduceAdd, Int.reduceSub, Int.reduceMul, Bool.not_true, Bool.not_false, bne_self_eq_false, beq_self_eq_true, hc, hr, hT, hQ, hX, hx1, toB_nat, show decide ((1 : UInt8) < 0) = false from rfl, yieldA_at 2 126, yieldA_at 2 153, yieldA_at 2 181, yieldA_at 2 246, yieldA_at 3 90, yieldA_at 3 215, yieldA_at 3 277, yieldA_at 6 185, yieldA_at 7 131, yieldA_at 8 95, yieldA_at 11 135, yieldA_at 13 100, yieldA_at 18 105, yieldA_at 23 110]) | refine WA_seq ?_ | refine WA_block ?_ | (refine WA_skip ?_; try simp only [go_sem]) | (refine WA_ret ?_; try simp only [go_sem]) | refine WA_ct rfl ?_ | refine WA_cf rfl ?_))
        (refine Drop_slots (by first | assumption | exact Nat.le_refl _) ?_; focus ((try simp only [JL_same, JL_J, JL_nil, Int.reduceAdd, Nat.sub_sub, Int.natCast_add, Int.natCast_one, Int.natCast_zero, Int.cast_ofNat_Int, Nat.add_zero, Bool.false_eq_true, if_false, if_true]); (try exact JL_refl _)))
      · have hT : trI (p : Int) a = 1 := by
          rw [htr]
          rcases tr_01 h0 h1 hp a with h | h
          · rw [h, decide_eq_false hq] at hqt; cases hqt
          · exact h
        have hQ : fcQ (p : Int) a = 4 := by unfold fcQ; rw [Int.toNat_natCast, hp, decide_eq_false hq]; rfl
        rw [hT] at hx1
        (repeat (first | ((first | (refine And.intro ?_ ?_; focus exact PLA) | ((first | with_reducible apply callB_i | with_reducible apply callK_intro | with_reducible apply callQ_i); (focus (first | assumption | ((first | with_reducible apply timI_ac | with_reducible apply r1 | with_reducible apply b1 | with_reducible apply traI_ac) <;> (first | assumption | rfl | (simp (disch := omega) only [go_sem]; first | done | rfl) | omega | decide | (simp; done))))); (try exact WP_au)) | refine WA_seq (WA_region ?_) | refine WA_region ?_ | refine WA_exit ?_); try simp (maxSteps := 1000000) (disch := first | omega | rfl | decide | (simp only [List.length_cons, List.length_nil, List.length_append, Bs_length, Is_length, Vs_length, Bl_length, Il_length] <;> omega)) only [go_sem, Nat.reduceAdd, Int.reduceAdd, Int.reduceSub, Int.reduceMul, Bool.not_true, Bool.not_false, bne_self_eq_false, beq_self_eq_true, hc, hr, hT, hQ, hx1, toB_nat, show decide ((1 : UInt8) < 1) = false from rfl, show ((1 : UInt8) == 0) = false from rfl, show ((4 : Int) == 0) = false from rfl, yieldA_at 2 126, yieldA_at 2 153, yieldA_at 2 181, yieldA_at 2 246, yieldA_at 3 90, yieldA_at 3 215, yieldA_at 3 277, yieldA_at 6 185, yieldA_at 7 131, yieldA_at 8 95, yieldA_at 11 135, yieldA_at 13 100, yieldA_at 18 105, yieldA_at 23 110]) | refine WA_seq ?_ | refine WA_block ?_ | (refine WA_skip ?_; try simp only [go_sem]) | (refine WA_ret ?_; try simp only [go_sem]) | refine WA_ct rfl ?_ | refine WA_cf rfl ?_))
        (refine Drop_slots (by first | assumption | exact Nat.le_refl _) ?_; focus ((try simp only [JL_same, JL_J, JL_nil, Int.reduceAdd, Nat.sub_sub, Int.natCast_add, Int.natCast_one, Int.natCast_zero, Int.cast_ofNat_Int, Nat.add_zero, Bool.false_eq_true, if_false, if_true]); (try exact JL_refl _)))
  · (repeat (first | ((first | (refine And.intro ?_ ?_; focus exact PLA) | ((first | with_reducible apply callB_i | with_reducible apply callK_intro | with_reducible apply callQ_i); (focus (first | assumption | (with_reducible apply d3 <;> (first | assumption | rfl | (simp (disch := omega) only [go_sem]; first | done | rfl) | omega | decide | (simp; done))))); (try exact WP_au)) | refine WA_seq (WA_region (id := 26) ?_) | refine WA_region (id := 26) ?_ | refine WA_exit ?_); try simp (maxSteps := 1000000) (disch := first | omega | rfl | decide | (simp only [List.length_cons, List.length_nil, List.length_append, Bs_length, Is_length, Vs_length, Bl_length, Il_length] <;> omega)) only [go_sem, Nat.reduceAdd, Int.reduceAdd, Int.reduceSub, Int.reduceMul, Bool.not_true, Bool.not_false, yieldA_at 2 126, yieldA_at 2 153, yieldA_at 2 181, yieldA_at 2 246, yieldA_at 3 90, yieldA_at 3 215, yieldA_at 3 277, yieldA_at 6 185, yieldA_at 7 131, yieldA_at 8 95, yieldA_at 11 135, yieldA_at 13 100, yieldA_at 18 105, yieldA_at 23 110]) | refine WA_seq ?_ | refine WA_block ?_ | (refine WA_skip ?_; try simp only [go_sem]) | (refine WA_ret ?_; try simp only [go_sem]) | refine WA_ct rfl ?_ | refine WA_cf rfl ?_))
    cases hf3 : fieldB m3.toNat
    · have q1 := @interI_e1 m3 hf3
      have q2 := @interS_e1 m3 hf3
      obtain ⟨m5, n5, b5, f5, x5, H5, hn5, k5, e5, v5, d5⟩ := drVal_op v3
      obtain ⟨A5, hA5⟩ := app_tr E3 e5
      have l5 : h.length ≤ H5.length := by rw [hA5]; simp
      have hi := q1 (h := H3) (b := bp) (b' := bv) (n := n) (n' := n')
      have hs := q2 (h := H3) (b := bp) (b' := bv) (n := n) (n' := n')
      have ce : ((1 : Int) == 0) = false := rfl
      (repeat (first | ((first | (refine And.intro ?_ ?_; focus exact PLA) | ((first | with_reducible apply callB_i | with_reducible apply callK_intro | with_reducible apply callQ_i); (focus (first | assumption | ((first | with_reducible apply hi | with_reducible apply hs | with_reducible apply bytes5_nil | with_reducible apply d5 | with_reducible apply vluI_ac m5 k5 (by omega) x5 | with_reducible apply vluS_ac m5 k5 (by omega) x5) <;> (first | assumption | rfl | (simp (disch := omega) only [go_sem]; first | done | rfl) | omega | decide | (simp; done))))); (try exact WP_au)) | refine WA_seq (WA_region ?_) | refine WA_region ?_ | refine WA_exit ?_); try simp (maxSteps := 1000000) (disch := first | omega | rfl | decide | (simp only [List.length_cons, List.length_nil, List.length_append, Bs_length, Is_length, Vs_length, Bl_length, Il_length] <;> omega)) only [go_sem, Nat.reduceAdd, Int.reduceAdd, Int.reduceSub, Int.reduceMul, Bool.not_true, Bool.not_false, bne_self_eq_false, beq_self_eq_true, ce, Bool.not_true, yieldA_at 2 126, yieldA_at 2 153, yieldA_at 2 181, yieldA_at 2 246, yieldA_at 3 90, yieldA_at 3 215, yieldA_at 3 277, yieldA_at 6 185, yieldA_at 7 131, yieldA_at 8 95, yieldA_at 11 135, yieldA_at 13 100, yieldA_at 18 105, yieldA_at 23 110]) | refine WA_seq ?_ | refine WA_block ?_ | (refine WA_skip ?_; try simp only [go_sem]) | (refine WA_ret ?_; try simp only [go_sem]) | refine WA_ct rfl ?_ | refine WA_cf rfl ?_))
      rw [hA5]
      ((first | refine ret_nA ?_ | refine ret_sA ?_ | refine ret_fA ?_); simp (maxSteps := 1000000) (disch := first | omega | rfl | decide | (simp only [List.length_cons, List.length_nil, List.length_append, Bs_length, Is_length, Vs_length, Bl_length, Il_length] <;> omega)) only [go_sem, Nat.reduceAdd, Int.reduceAdd, Int.reduceSub, Int.reduceMul, Bool.not_true, Bool.not_false]; try rfl)
    · by_cases hbad : n = 0 ∨ 40 < n ∨ n' ≠ n
      · have q1 := @interI_e2 m3 hf3
        have q2 := @interS_e2 m3 hf3
        obtain ⟨m5, n5, b5, f5, x5, H5, hn5, k5, e5, v5, d5⟩ := drVal_op v3
        obtain ⟨A5, hA5⟩ := app_tr E3 e5
        have l5 : h.length ≤ H5.length := by rw [hA5]; simp
        have hi := q1 (h := H3) (b := bp) (b' := bv) (n := n) (n' := n') (by omega) (by omega) hbad
        have hs := q2 (h := H3) (b := bp) (b' := bv) (n := n) (n' := n') (by omega) (by omega) hbad
        have ce : ((2 : Int) == 0) = false := rfl
        (repeat (first | ((first | (refine And.intro ?_ ?_; focus exact PLA) | ((first | with_reducible apply callB_i | with_reducible apply callK_intro | with_reducible apply callQ_i); (focus (first | assumption | ((first | with_reducible apply hi | with_reducible apply hs | with_reducible apply bytes5_nil | with_reducible apply d5 | with_reducible apply vluI_ac m5 k5 (by omega) x5 | with_reducible apply vluS_ac m5 k5 (by omega) x5) <;> (first | assumption | rfl | (simp (disch := omega) only [go_sem]; first | done | rfl) | omega | decide | (simp; done))))); (try exact WP_au)) | refine WA_seq (WA_region ?_) | refine WA_region ?_ | refine WA_exit ?_); try simp (maxSteps := 1000000) (disch := first | omega | rfl | decide | (simp only [List.length_cons, List.length_nil, List.length_append, Bs_length, Is_length, Vs_length, Bl_length, Il_length] <;> omega)) only [go_sem, Nat.reduceAdd, Int.reduceAdd, Int.reduceSub, Int.reduceMul, Bool.not_true, Bool.not_false, bne_self_eq_false, beq_self_eq_true, ce, Bool.not_true, yieldA_at 2 126, yieldA_at 2 153, yieldA_at 2 181, yieldA_at 2 246, yieldA_at 3 90, yieldA_at 3 215, yieldA_at 3 277, yieldA_at 6 185, yieldA_at 7 131, yieldA_at 8 95, yieldA_at 11 135, yieldA_at 13 100, yieldA_at 18 105, yieldA_at 23 110]) | refine WA_seq ?_ | refine WA_block ?_ | (refine WA_skip ?_; try simp only [go_sem]) | (refine WA_ret ?_; try simp only [go_sem]) | refine WA_ct rfl ?_ | refine WA_cf rfl ?_))
        rw [hA5]
        ((first | refine ret_nA ?_ | refine ret_sA ?_ | refine ret_fA ?_); simp (maxSteps := 1000000) (disch := first | omega | rfl | decide | (simp only [List.length_cons, List.length_nil, List.length_append, Bs_length, Is_length, Vs_length, Bl_length, Il_length] <;> omega)) only [go_sem, Nat.reduceAdd, Int.reduceAdd, Int.reduceSub, Int.reduceMul, Bool.not_true, Bool.not_false]; try rfl)
      · obtain rfl : n' = n := by omega
        have h1n : 1 ≤ n' := by omega
        have hn40 : n' ≤ 40 := by omega
        cases ht : twiceP f n'
        · obtain ⟨p, rfl, hp, h0, h1⟩ := fieldB_nat hf3
          have hi := interI_ok hf3 k1 k2 h1n hn40 ht
          have hs := interS_ok hf3 (look_old k1 [⟨Bs n' (outS p f g n' n'), true⟩]) (look_old k2 [⟨Bs n' (outS p f g n' n'), true⟩]) h1n hn40 ht
          rw [Int.toNat_natCast] at hi hs
          obtain ⟨H4, hH4⟩ : ∃ M, M = (H3 ++ [⟨Bs n' (outS p f g n' n'), true⟩]) ++ [⟨Bs n' (outS p f g n' n'), true⟩] := ⟨_, rfl⟩
          rw [← hH4] at hs
          have kp : H4[bp]? = some ⟨Bs n' f, true⟩ := by rw [hH4]; exact look_old (look_old k1 _) _
          have kv : H4[bv]? = some ⟨Bs n' g, true⟩ := by rw [hH4]; exact look_old (look_old k2 _) _
          have ko : H4[H3.length]? = some ⟨Bs n' (outS p f g n' n'), true⟩ := by rw [hH4]; simp
          have ko2 : H4[(H3 ++ [(⟨Bs n' (outS p f g n' n'), true⟩ : Blk)]).length]? = some ⟨Bs n' (outS p f g n' n'), true⟩ := by rw [hH4]; simp
          have E4 : ∃ A, H4 = h ++ A := by
            obtain ⟨A, rfl⟩ := E3
            exact ⟨_, by rw [hH4, List.append_assoc, List.append_assoc]⟩
          have n4 := app_len E4
          have v4 : Cv H4 cv := by rw [hH4]; exact (v3.app _).app _
          obtain ⟨m5, n5, b5, f5, x5, H5, hn5, k5, e5, v5, d5⟩ := drVal_op v4
          obtain ⟨A5, hA5⟩ := app_tr E4 e5
          have l5 : h.length ≤ H5.length := by rw [hA5]; simp
          have hbt := bytes5_ac ko ko2 (by omega)
          simp only [List.length_append, List.length_cons, List.length_nil, Nat.zero_add] at hbt
          (repeat (first | ((first | (refine And.intro ?_ ?_; focus exact PLA) | ((first | with_reducible apply callB_i | with_reducible apply callK_intro | with_reducible apply callQ_i); (focus (first | assumption | ((first | with_reducible apply hi | with_reducible apply hs | with_reducible apply hbt) <;> (first | assumption | rfl | (simp (disch := omega) only [go_sem]; first | done | rfl) | omega | decide | (simp; done))))); (try exact WP_au)) | refine WA_seq (WA_region ?_) | refine WA_region ?_ | refine WA_exit ?_); try simp (maxSteps := 1000000) (disch := first | omega | rfl | decide | (simp only [List.length_cons, List.length_nil, List.length_append, Bs_length, Is_length, Vs_length, Bl_length, Il_length] <;> omega)) only [go_sem, Nat.reduceAdd, Int.reduceAdd, Int.reduceSub, Int.reduceMul, Bool.not_true, Bool.not_false, bne_self_eq_false, beq_self_eq_true, Bool.not_true, yieldA_at 2 126, yieldA_at 2 153, yieldA_at 2 181, yieldA_at 2 246, yieldA_at 3 90, yieldA_at 3 215, yieldA_at 3 277, yieldA_at 6 185, yieldA_at 7 131, yieldA_at 8 95, yieldA_at 11 135, yieldA_at 13 100, yieldA_at 18 105, yieldA_at 23 110]) | refine WA_seq ?_ | refine WA_block ?_ | (refine WA_skip ?_; try simp only [go_sem]) | (refine WA_ret ?_; try simp only [go_sem]) | refine WA_ct rfl ?_ | refine WA_cf rfl ?_))
          refine WA_forH (fun k => [(2, J), (34, .int .i64 k), (35, J), (36, J), (228, J), (229, J), (230, J), (231, J), (232, J), (233, J), (234, J), (235, J), (236, J), (237, J), (238, J), (239, J), (240, J), (241, J), (242, J), (243, J), (244, J), (245, J), (246, J), (247, J), (248, J), (249, J), (250, J), (251, J), (252, J), (253, J)]) (fun k => H4) (n') ?_ ?_ ?_ <;> (try simp only [patT_cons, patT_nil, patL_cons, patL_nil, list_set_zero, list_set_succ, blk_set_zero, blk_set_succ])
          · (refine Drop_slots (by first | assumption | exact Nat.le_refl _) ?_; focus ((try simp only [JL_same, JL_J, JL_nil, Int.reduceAdd, Nat.sub_sub, Int.natCast_add, Int.natCast_one, Int.natCast_zero, Int.cast_ofNat_Int, Nat.add_zero, Bool.false_eq_true, if_false, if_true]); (try exact JL_refl _)))
          · intro k hk
            have b1 := vlI_back hp h0 h1 hn40 ht (g := g) hk
            have b2 := fcV_ok hp hn40
            (repeat (first | ((first | (refine And.intro ?_ ?_; focus exact PLA) | ((first | with_reducible apply callB_i | with_reducible apply callK_intro | with_reducible apply callQ_i); (focus (first | assumption | (with_reducible apply vluI_ac (p : Int) ko (by omega) (f k) <;> (first | assumption | rfl | (simp (disch := omega) only [go_sem]; first | done | rfl) | omega | decide | (simp; done))))); (try exact WP_au)) | refine WA_seq (WA_region ?_) | refine WA_region ?_ | refine WA_exit ?_); try simp (maxSteps := 1000000) (disch := first | omega | rfl | decide | (simp only [List.length_cons, List.length_nil, List.length_append, Bs_length, Is_length, Vs_length, Bl_length, Il_length] <;> omega)) only [go_sem, Nat.reduceAdd, Int.reduceAdd, Int.reduceSub, Int.reduceMul, Bool.not_true, Bool.not_false, bne_self_eq_false, kp, kv, b1, b2, yieldA_at 2 126, yieldA_at 2 153, yieldA_at 2 181, yieldA_at 2 246, yieldA_at 3 90, yieldA_at 3 215, yieldA_at 3 277, yieldA_at 6 185, yieldA_at 7 131, yieldA_at 8 95, yieldA_at 11 135, yieldA_at 13 100, yieldA_at 18 105, yieldA_at 23 110]) | refine WA_seq ?_ | refine WA_block ?_ | (refine WA_skip ?_; try simp only [go_sem]) | (refine WA_ret ?_; try simp only [go_sem]) | refine WA_ct rfl ?_ | refine WA_cf rfl ?_))
            (refine Drop_slots (by first | assumption | exact Nat.le_refl _) ?_; focus ((try simp only [JL_same, JL_J, JL_nil, Int.reduceAdd, Nat.sub_sub, Int.natCast_add, Int.natCast_one, Int.natCast_zero, Int.cast_ofNat_Int, Nat.add_zero, Bool.false_eq_true, if_false, if_true]); (try exact JL_refl _)))
          · (repeat (first | ((first | (refine And.intro ?_ ?_; focus exact PLA) | ((first | with_reducible apply callB_i | with_reducible apply callK_intro | with_reducible apply callQ_i); (focus (first | assumption | ((first | with_reducible apply d5 | with_reducible apply vluI_ac m5 k5 (by omega) x5 | with_reducible apply vluS_ac m5 k5 (by omega) x5) <;> (first | assumption | rfl | (simp (disch := omega) only [go_sem]; first | done | rfl) | omega | decide | (simp; done))))); (try exact WP_au)) | refine WA_seq (WA_region ?_) | refine WA_region ?_ | refine WA_exit ?_); try simp (maxSteps := 1000000) (disch := first | omega | rfl | decide | (simp only [List.length_cons, List.length_nil, List.length_append, Bs_length, Is_length, Vs_length, Bl_length, Il_length] <;> omega)) only [go_sem, Nat.reduceAdd, Int.reduceAdd, Int.reduceSub, Int.reduceMul, Bool.not_true, Bool.not_false, bne_self_eq_false, beq_self_eq_true, yieldA_at 2 126, yieldA_at 2 153, yieldA_at 2 181, yieldA_at 2 246, yieldA_at 3 90, yieldA_at 3 215, yieldA_at 3 277, yieldA_at 6 185, yieldA_at 7 131, yieldA_at 8 95, yieldA_at 11 135, yieldA_at 13 100, yieldA_at 18 105, yieldA_at 23 110]) | refine WA_seq ?_ | refine WA_block ?_ | (refine WA_skip ?_; try simp only [go_sem]) | (refine WA_ret ?_; try simp only [go_sem]) | refine WA_ct rfl ?_ | refine WA_cf rfl ?_))
            rw [hA5]
            ((first | refine ret_nA ?_ | refine ret_sA ?_ | refine ret_fA ?_); simp (maxSteps := 1000000) (disch := first | omega | rfl | decide | (simp only [List.length_cons, List.length_nil, List.length_append, Bs_length, Is_length, Vs_length, Bl_length, Il_length] <;> omega)) only [go_sem, Nat.reduceAdd, Int.reduceAdd, Int.reduceSub, Int.reduceMul, Bool.not_true, Bool.not_false]; try rfl)
        · have hi := interI_e3 hf3 (b' := bv) k1 h1n hn40 ht
          have hs := interS_e3 hf3 (b' := bv) k1 h1n hn40 ht
          obtain ⟨m5, n5, b5, f5, x5, H5, hn5, k5, e5, v5, d5⟩ := drVal_op v3
          obtain ⟨A5, hA5⟩ := app_tr E3 e5
          have l5 : h.length ≤ H5.length := by rw [hA5]; simp
          have ce : ((5 : Int) == 0) = false := rfl
          (repeat (first | ((first | (refine And.intro ?_ ?_; focus exact PLA) | ((first | with_reducible apply callB_i | with_reducible apply callK_intro | with_reducible apply callQ_i); (focus (first | assumption | ((first | with_reducible apply hi | with_reducible apply hs | with_reducible apply bytes5_nil | with_reducible apply d5 | with_reducible apply vluI_ac m5 k5 (by omega) x5 | with_reducible apply vluS_ac m5 k5 (by omega) x5) <;> (first | assumption | rfl | (simp (disch := omega) only [go_sem]; first | done | rfl) | omega | decide | (simp; done))))); (try exact WP_au)) | refine WA_seq (WA_region ?_) | refine WA_region ?_ | refine WA_exit ?_); try simp (maxSteps := 1000000) (disch := first | omega | rfl | decide | (simp only [List.length_cons, List.length_nil, List.length_append, Bs_length, Is_length, Vs_length, Bl_length, Il_length] <;> omega)) only [go_sem, Nat.reduceAdd, Int.reduceAdd, Int.reduceSub, Int.reduceMul, Bool.not_true, Bool.not_false, bne_self_eq_false, beq_self_eq_true, ce, Bool.not_true, yieldA_at 2 126, yieldA_at 2 153, yieldA_at 2 181, yieldA_at 2 246, yieldA_at 3 90, yieldA_at 3 215, yieldA_at 3 277, yieldA_at 6 185, yieldA_at 7 131, yieldA_at 8 95, yieldA_at 11 135, yieldA_at 13 100, yieldA_at 18 105, yieldA_at 23 110]) | refine WA_seq ?_ | refine WA_block ?_ | (refine WA_skip ?_; try simp only [go_sem]) | (refine WA_ret ?_; try simp only [go_sem]) | refine WA_ct rfl ?_ | refine WA_cf rfl ?_))
          rw [hA5]
          ((first | refine ret_nA ?_ | refine ret_sA ?_ | refine ret_fA ?_); simp (maxSteps := 1000000) (disch := first | omega | rfl | decide | (simp only [List.length_cons, List.length_nil, List.length_append, Bs_length, Is_length, Vs_length, Bl_length, Il_length] <;> omega)) only [go_sem, Nat.reduceAdd, Int.reduceAdd, Int.reduceSub, Int.reduceMul, Bool.not_true, Bool.not_false]; try rfl)


end Go.Proofs.Ytapiaenodhhgdaa
namespace Go.Proofs.Ytapiaenodhhgdaa
set_option linter.unusedSimpArgs false
set_option linter.unusedVariables false
set_option maxRecDepth 20000
set_option maxHeartbeats 1000000
open Go.Abs

theorem fnFieldEquations_big {b n : Nat} (hn : 4096 < n) (hn2 : n ≤ 9223372036854775807) (h : List Blk) : AC Try.prog 3 [sl b 0 n 1] h (.bool true) h := by
  have hbg := big_long (b := b) hn hn2
  (refine AC_begin (fun _ _ => Try.call3 _ _) Try.func3 rfl Try.ntmps3 Try.results3 (fun hwf => ?_); simp only [List.length_cons, List.length_nil, Nat.reduceAdd, Nat.reduceSub, List.replicate, List.cons_append, List.nil_append])
  (repeat (first | ((first | (refine And.intro ?_ ?_; focus exact PLA) | ((first | with_reducible apply callB_i | with_reducible apply callK_intro | with_reducible apply callQ_i); (focus (first | assumption | (with_reducible apply hbg <;> (first | assumption | rfl | (simp (disch := omega) only [go_sem]; first | done | rfl) | omega | decide | (simp; done))))); (try exact WP_au)) | refine WA_seq (WA_region ?_) | refine WA_region ?_ | refine WA_exit ?_); try simp (maxSteps := 1000000) (disch := first | omega | rfl | decide | (simp only [List.length_cons, List.length_nil, List.length_append, Bs_length, Is_length, Vs_length, Bl_length, Il_length] <;> omega)) only [go_sem, Nat.reduceAdd, Int.reduceAdd, Int.reduceSub, Int.reduceMul, Bool.not_true, Bool.not_false, yieldA_at 2 126, yieldA_at 2 153, yieldA_at 2 181, yieldA_at 2 246, yieldA_at 3 90, yieldA_at 3 215, yieldA_at 3 277, yieldA_at 6 185, yieldA_at 7 131, yieldA_at 8 95, yieldA_at 11 135, yieldA_at 13 100, yieldA_at 18 105, yieldA_at 23 110]) | refine WA_seq ?_ | refine WA_block ?_ | (refine WA_skip ?_; try simp only [go_sem]) | (refine WA_ret ?_; try simp only [go_sem]) | refine WA_ct rfl ?_ | refine WA_cf rfl ?_))
  ((first | refine ret_nA ?_ | refine ret_sA ?_ | refine ret_fA ?_); simp (maxSteps := 1000000) (disch := first | omega | rfl | decide | (simp only [List.length_cons, List.length_nil, List.length_append, Bs_length, Is_length, Vs_length, Bl_length, Il_length] <;> omega)) only [go_sem, Nat.reduceAdd, Int.reduceAdd, Int.reduceSub, Int.reduceMul, Bool.not_true, Bool.not_false]; try rfl)

theorem fnFieldEquations_args (us : List Value) (bl : List Blk) (h : ArgsU Try.prog 0 [22] us bl) : AC Try.prog 3 us bl (.bool true) bl := by
  rcases h.list (m := 1) (e := 5) (by kernel_rfl) (by kernel_rfl) with ⟨us1, rfl, h1⟩ | ⟨n1, f1, us1, bl1, rfl, rfl, hn1, h1⟩
  · obtain ⟨rfl, rfl⟩ := h1.done
    exact fnFieldEquations_ok .nil
  · obtain ⟨rfl, rfl⟩ := h1.done
    rw [Nat.mul_one]
    rcases Nat.lt_or_ge 4096 n1 with hl | hl
    · exact fnFieldEquations_big hl (by have : maxLen = 9223372036854775807 := rfl; omega) _
    · exact fnFieldEquations_ok (Cv.sl (h := [⟨Bs n1 f1, false⟩]) (bc := 0) (f := f1) (rc := false) rfl hl)

set_option maxRecDepth 100000 in
set_option maxHeartbeats 1000000 in
theorem fnFieldEquations_lifted (os : Os) (started : os.Started) (H : Type) (enc : TypeId × Value → H) :
    ReturnsInHanded {} Try.checked os 3 .any (Rows.fnFieldEquationsSpec.pre6 enc Try.prog Try.f3 Rows.fnFieldEquationsRow.domain false) (Rows.fnFieldEquationsSpec.post enc Try.prog Try.f3 false true false false) :=
  frame_law (C := Try.checked) (by kernel_rfl) started (by kernel_rfl) Try.func3 (by kernel_rfl)
    (ChangeSpec.witness6 (enc := enc) (C := Try.checked) false ⟨#[], #[.slice none 0 0], []⟩ 8 (by kernel_rfl) (by kernel_rfl) (by kernel_rfl) (by kernel_rfl))
    rfl (fun ds h => by rw [Try.params3] at h; match ds, h with | [_], _ => rfl) (fun W h => by first | exact doorOk.shaped h | exact doorOk.mk h trivial trivial trivial) (by rfl) Try.underlying4 (by rw [Try.params3]; kernel_rfl)
    (by rw [Try.params3]; exact fnFieldEquations_args)

/-- ████ THE STATEMENT ████ -/
theorem fnFieldEquations : Rows.FnFieldEquationsSaid :=
  OpenClaim.holds_of_wide 3 Try.f3 rfl rfl rfl rfl rfl rfl rfl ⟨rfl, rfl, rfl, rfl, rfl⟩ rfl rfl rfl rfl rfl (by kernel_rfl) Try.func3 (by kernel_rfl)
    (of_decide_eq_true (by kernel_rfl)) (by unfold Func.isWrapper; first | (rw [if_pos (by decide +kernel)]; kernel_rfl) | (rw [if_neg (by decide +kernel)]; exact ⟨rfl, rfl⟩))
    (fun os started H enc _ => fnFieldEquations_lifted os started H enc)
#print axioms fnFieldEquations
end Go.Proofs.Ytapiaenodhhgdaa
