/- A part of the proof of FnBranches. -/
import Derived.Test.YtalbdgkbinndlaaDoorQBRH
import Derived.Test.YtalbdgkbinndlaaDoorQBR0
import Derived.Test.YtalbdgkbinndlaaDoorQBR1
import Derived.Test.YtalbdgkbinndlaaDoorQBR2
import Derived.Test.YtalbdgkbinndlaaDoorQBR3
/- The draw of a matrix's text: the source's states told exactly, so that the draw's loop is seen to end. -/
namespace Go.Proofs.YtalbdgkbinndlaaDoor
set_option linter.unusedSimpArgs false
set_option linter.unusedVariables false
set_option maxRecDepth 20000
set_option maxHeartbeats 1000000
open Go.Abs

/-- A source whose next state is known. -/
def SrcE (h : List Blk) (b : Nat) (cv : Value) (a s n : Nat) : Prop := ∃ (hs : Int) (f : Nat → UInt8), h[b]? = some ⟨Sr cv a hs, true⟩ ∧ nxH hs = ((s : Nat) : Int) ∧ s < 18446744073709551616 ∧ a ≤ n ∧ n ≤ 4096 ∧ Cd h b cv n f
theorem wrap_u64m (x : Int) : IntKind.u64.wrap x = x % 18446744073709551616 := rfl
theorem nxH_lt (hs : Int) : ∃ s : Nat, nxH hs = ((s : Nat) : Int) ∧ s < 18446744073709551616 := by
  unfold nxH
  rw [wrap_u64m]
  have h1 := Int.emod_nonneg (IntKind.u64.wrap (hs * 6364136223846793005) + 1442695040888963407) (show (18446744073709551616 : Int) ≠ 0 by decide)
  have h2 := Int.emod_lt_of_pos (IntKind.u64.wrap (hs * 6364136223846793005) + 1442695040888963407) (show (0 : Int) < 18446744073709551616 by decide)
  exact ⟨_, (Int.toNat_of_nonneg h1).symm, by omega⟩
theorem nxH_nat (s : Nat) : nxH ((s : Nat) : Int) = ((gS s : Nat) : Int) := by
  unfold nxH
  rw [wrap_u64m, wrap_u64m, gS_is, Int.emod_add_emod]
  rw [Int.natCast_emod, Int.natCast_add, Int.natCast_mul]
  rfl
theorem gS_lt (s : Nat) : gS s < 18446744073709551616 := by rw [gS_is]; exact Nat.mod_lt _ (by decide)
theorem fdiv33 (s : Nat) : ((s : Nat) : Int).fdiv (2 ^ (min 33 64)) = ((s / 8589934592 : Nat) : Int) := by
  show Int.fdiv (s : Int) 8589934592 = _
  cases s <;> rfl
theorem and24_is (s : Nat) : bits .and .u64 (((s : Nat) : Int).fdiv (2 ^ (min 33 64))) 16777215 = ((gX s : Nat) : Int) := by
  rw [fdiv33]
  show IntKind.u64.wrap ((((BitVec.ofInt 64 ((s / 8589934592 : Nat) : Int)) &&& (BitVec.ofInt 64 16777215)).toNat : Nat) : Int) = _
  have h1 : (BitVec.ofInt 64 16777215).toNat = 2 ^ 24 - 1 := by decide
  have h2 : (BitVec.ofInt 64 ((s / 8589934592 : Nat) : Int)).toNat = s / 8589934592 % 2 ^ 64 := by rw [BitVec.ofInt_natCast, BitVec.toNat_ofNat]
  rw [BitVec.toNat_and, h1, h2, Nat.and_two_pow_sub_one_eq_mod, Nat.mod_mod_of_dvd _ (by decide)]
  show IntKind.u64.wrap ((s / 8589934592 % 16777216 : Nat) : Int) = _
  have h3 := Nat.mod_lt (s / 8589934592) (show 0 < 16777216 by decide)
  rw [wrap_u64 (by omega) (by omega)]
  rfl
theorem SrcAt.exact {h : List Blk} {b : Nat} {cv : Value} (x : SrcAt h b cv) : ∃ a s n, SrcE h b cv a s n := by
  obtain ⟨k, hb, a, hs, n, f, rfl, h1, h2, c⟩ := x
  obtain ⟨s, e, hl⟩ := nxH_lt hs
  exact ⟨a, s, n, hs, f, hb, e, hl, h1, h2, c⟩
theorem SrcE.at {h : List Blk} {b : Nat} {cv : Value} {a s n : Nat} (x : SrcE h b cv a s n) : SrcAt h b cv := by
  obtain ⟨hs, f, hb, _, _, h1, h2, c⟩ := x
  exact ⟨_, hb, a, hs, n, f, rfl, h1, h2, c⟩
theorem SrcE.app {h : List Blk} {b : Nat} {cv : Value} {a s n : Nat} (x : SrcE h b cv a s n) (L : List Blk) : SrcE (h ++ L) b cv a s n := by
  obtain ⟨hs, f, hb, e, h0, h1, h2, c⟩ := x
  exact ⟨hs, f, look_old hb L, e, h0, h1, h2, c.app L⟩
theorem next_E {h : List Blk} {b : Nat} {cv : Value} {a s n : Nat} (x : SrcE h b cv a s n) {N : Nat} (hN : 0 < N) (hN2 : N ≤ 1125899906842624) :
    ∃ (v a' : Nat) (h' : List Blk), v < N ∧ (n ≤ a → v = gX s % N) ∧ a ≤ a' ∧ (a + 1 ≤ a' ∨ n ≤ a') ∧ SrcE h' b cv a' (gS s) n ∧ Aft h h' b cv ∧ AC Tryd.prog 32 [pt b 0, .int .i64 N] h (.int .i64 v) h' := by
  obtain ⟨hs, f, hb, e, h0, h1, h2, c⟩ := x
  have hbl := blt hb
  have e24 := and24_is s
  rw [← e] at e24
  have hn2 : nxH (nxH hs) = ((gS s : Nat) : Int) := by rw [e]; exact nxH_nat s
  have hl := gS_lt s
  have hz : decide (N < 1) = false := decide_eq_false (by omega)
  cases c with
  | nil =>
    have hg : gX s < 16777216 := Nat.mod_lt _ (by decide)
    refine ⟨gX s % N, a, _, Nat.mod_lt _ hN, fun _ => rfl, Nat.le_refl _, .inr (Nat.zero_le _), ⟨nxH hs, f, look_set hbl, hn2, hl, h1, h2, .nil f⟩, aft_set hbl ⟨a, _, 0, f, rfl, h1, h2, .nil f⟩, ?_⟩
    have ha : decide (a < 0) = false := decide_eq_false (by omega)
    (refine AC_begin (fun _ _ => Tryd.call32 _ _) Tryd.func32 rfl Tryd.ntmps32 Tryd.results32 (fun hwf => ?_); simp only [List.length_cons, List.length_nil, Nat.reduceAdd, Nat.reduceSub, List.replicate, List.cons_append, List.nil_append])
    (repeat (first | ((first | (refine And.intro ?_ ?_; focus exact PLA) | refine WA_seq (WA_region ?_) | refine WA_region ?_ | refine WA_exit ?_); try simp (maxSteps := 1000000) (disch := first | omega | rfl | decide | (simp only [List.length_cons, List.length_nil, List.length_append, LV] <;> omega)) only [go_sem, Nat.reduceAdd, Int.reduceAdd, Int.reduceSub, Int.reduceMul, Bool.not_true, Bool.not_false, hb, look_set hbl, List.set_set, hz, ha, show IntKind.u64.wrap (IntKind.u64.wrap (hs * 6364136223846793005) + 1442695040888963407) = nxH hs from rfl, e24]) | (refine WA_seq (WA_draw (id := 5) mixedOk (by kernel_rfl) ?_); simp (maxSteps := 1000000) (disch := first | omega | rfl | decide | (simp only [List.length_cons, List.length_nil, List.length_append, LV] <;> omega)) only [go_sem, Nat.reduceAdd, Int.reduceAdd, Int.reduceSub, Int.reduceMul, Bool.not_true, Bool.not_false, hb, look_set hbl, List.set_set, hz, ha, show IntKind.u64.wrap (IntKind.u64.wrap (hs * 6364136223846793005) + 1442695040888963407) = nxH hs from rfl, e24]) | (refine WA_draw (id := 5) mixedOk (by kernel_rfl) ?_; simp (maxSteps := 1000000) (disch := first | omega | rfl | decide | (simp only [List.length_cons, List.length_nil, List.length_append, LV] <;> omega)) only [go_sem, Nat.reduceAdd, Int.reduceAdd, Int.reduceSub, Int.reduceMul, Bool.not_true, Bool.not_false, hb, look_set hbl, List.set_set, hz, ha, show IntKind.u64.wrap (IntKind.u64.wrap (hs * 6364136223846793005) + 1442695040888963407) = nxH hs from rfl, e24]) | (refine WA_seq (WA_draw (id := 6) mixedOk (by kernel_rfl) ?_); simp (maxSteps := 1000000) (disch := first | omega | rfl | decide | (simp only [List.length_cons, List.length_nil, List.length_append, LV] <;> omega)) only [go_sem, Nat.reduceAdd, Int.reduceAdd, Int.reduceSub, Int.reduceMul, Bool.not_true, Bool.not_false, hb, look_set hbl, List.set_set, hz, ha, show IntKind.u64.wrap (IntKind.u64.wrap (hs * 6364136223846793005) + 1442695040888963407) = nxH hs from rfl, e24]) | (refine WA_draw (id := 6) mixedOk (by kernel_rfl) ?_; simp (maxSteps := 1000000) (disch := first | omega | rfl | decide | (simp only [List.length_cons, List.length_nil, List.length_append, LV] <;> omega)) only [go_sem, Nat.reduceAdd, Int.reduceAdd, Int.reduceSub, Int.reduceMul, Bool.not_true, Bool.not_false, hb, look_set hbl, List.set_set, hz, ha, show IntKind.u64.wrap (IntKind.u64.wrap (hs * 6364136223846793005) + 1442695040888963407) = nxH hs from rfl, e24]) | refine WA_seq ?_ | refine WA_block ?_ | (refine WA_skip ?_; try simp only [go_sem]) | (refine WA_ret ?_; try simp only [go_sem]) | refine WA_ct rfl ?_ | refine WA_cf rfl ?_))
    (exact sR0)
  | sl _ hc hne =>
    have hc2 := fun (x : Blk) => set_at (x := x) hc hne.symm
    have hg : gX s < 16777216 := Nat.mod_lt _ (by decide)
    by_cases ha : a < n
    · have hf := u8_lt (f a)
      refine ⟨(gX s + (f a).toNat) % N, a + 1, _, Nat.mod_lt _ hN, fun h => absurd ha (by omega), by omega, .inl (Nat.le_refl _), ⟨nxH hs, f, look_set hbl, hn2, hl, by omega, h2, .sl f (hc2 _) hne⟩, aft_set hbl ⟨a + 1, _, n, f, rfl, by omega, h2, .sl f hc hne⟩, ?_⟩
      (refine AC_begin (fun _ _ => Tryd.call32 _ _) Tryd.func32 rfl Tryd.ntmps32 Tryd.results32 (fun hwf => ?_); simp only [List.length_cons, List.length_nil, Nat.reduceAdd, Nat.reduceSub, List.replicate, List.cons_append, List.nil_append])
      (repeat (first | ((first | (refine And.intro ?_ ?_; focus exact PLA) | refine WA_seq (WA_region ?_) | refine WA_region ?_ | refine WA_exit ?_); try simp (maxSteps := 1000000) (disch := first | omega | rfl | decide | (simp only [List.length_cons, List.length_nil, List.length_append, LV] <;> omega)) only [go_sem, Nat.reduceAdd, Int.reduceAdd, Int.reduceSub, Int.reduceMul, Bool.not_true, Bool.not_false, hb, look_set hbl, List.set_set, hc2, hz, decide_eq_true ha, show IntKind.u64.wrap (IntKind.u64.wrap (hs * 6364136223846793005) + 1442695040888963407) = nxH hs from rfl, e24]) | (refine WA_seq (WA_draw (id := 5) mixedOk (by kernel_rfl) ?_); simp (maxSteps := 1000000) (disch := first | omega | rfl | decide | (simp only [List.length_cons, List.length_nil, List.length_append, LV] <;> omega)) only [go_sem, Nat.reduceAdd, Int.reduceAdd, Int.reduceSub, Int.reduceMul, Bool.not_true, Bool.not_false, hb, look_set hbl, List.set_set, hc2, hz, decide_eq_true ha, show IntKind.u64.wrap (IntKind.u64.wrap (hs * 6364136223846793005) + 1442695040888963407) = nxH hs from rfl, e24]) | (refine WA_draw (id := 5) mixedOk (by kernel_rfl) ?_; simp (maxSteps := 1000000) (disch := first | omega | rfl | decide | (simp only [List.length_cons, List.length_nil, List.length_append, LV] <;> omega)) only [go_sem, Nat.reduceAdd, Int.reduceAdd, Int.reduceSub, Int.reduceMul, Bool.not_true, Bool.not_false, hb, look_set hbl, List.set_set, hc2, hz, decide_eq_true ha, show IntKind.u64.wrap (IntKind.u64.wrap (hs * 6364136223846793005) + 1442695040888963407) = nxH hs from rfl, e24]) | (refine WA_seq (WA_draw (id := 6) mixedOk (by kernel_rfl) ?_); simp (maxSteps := 1000000) (disch := first | omega | rfl | decide | (simp only [List.length_cons, List.length_nil, List.length_append, LV] <;> omega)) only [go_sem, Nat.reduceAdd, Int.reduceAdd, Int.reduceSub, Int.reduceMul, Bool.not_true, Bool.not_false, hb, look_set hbl, List.set_set, hc2, hz, decide_eq_true ha, show IntKind.u64.wrap (IntKind.u64.wrap (hs * 6364136223846793005) + 1442695040888963407) = nxH hs from rfl, e24]) | (refine WA_draw (id := 6) mixedOk (by kernel_rfl) ?_; simp (maxSteps := 1000000) (disch := first | omega | rfl | decide | (simp only [List.length_cons, List.length_nil, List.length_append, LV] <;> omega)) only [go_sem, Nat.reduceAdd, Int.reduceAdd, Int.reduceSub, Int.reduceMul, Bool.not_true, Bool.not_false, hb, look_set hbl, List.set_set, hc2, hz, decide_eq_true ha, show IntKind.u64.wrap (IntKind.u64.wrap (hs * 6364136223846793005) + 1442695040888963407) = nxH hs from rfl, e24]) | refine WA_seq ?_ | refine WA_block ?_ | (refine WA_skip ?_; try simp only [go_sem]) | (refine WA_ret ?_; try simp only [go_sem]) | refine WA_ct rfl ?_ | refine WA_cf rfl ?_))
      (exact sR0)
    · refine ⟨gX s % N, a, _, Nat.mod_lt _ hN, fun _ => rfl, Nat.le_refl _, .inr (by omega), ⟨nxH hs, f, look_set hbl, hn2, hl, h1, h2, .sl f (hc2 _) hne⟩, aft_set hbl ⟨a, _, n, f, rfl, h1, h2, .sl f hc hne⟩, ?_⟩
      (refine AC_begin (fun _ _ => Tryd.call32 _ _) Tryd.func32 rfl Tryd.ntmps32 Tryd.results32 (fun hwf => ?_); simp only [List.length_cons, List.length_nil, Nat.reduceAdd, Nat.reduceSub, List.replicate, List.cons_append, List.nil_append])
      (repeat (first | ((first | (refine And.intro ?_ ?_; focus exact PLA) | refine WA_seq (WA_region ?_) | refine WA_region ?_ | refine WA_exit ?_); try simp (maxSteps := 1000000) (disch := first | omega | rfl | decide | (simp only [List.length_cons, List.length_nil, List.length_append, LV] <;> omega)) only [go_sem, Nat.reduceAdd, Int.reduceAdd, Int.reduceSub, Int.reduceMul, Bool.not_true, Bool.not_false, hb, look_set hbl, List.set_set, hz, decide_eq_false ha, show IntKind.u64.wrap (IntKind.u64.wrap (hs * 6364136223846793005) + 1442695040888963407) = nxH hs from rfl, e24]) | (refine WA_seq (WA_draw (id := 5) mixedOk (by kernel_rfl) ?_); simp (maxSteps := 1000000) (disch := first | omega | rfl | decide | (simp only [List.length_cons, List.length_nil, List.length_append, LV] <;> omega)) only [go_sem, Nat.reduceAdd, Int.reduceAdd, Int.reduceSub, Int.reduceMul, Bool.not_true, Bool.not_false, hb, look_set hbl, List.set_set, hz, decide_eq_false ha, show IntKind.u64.wrap (IntKind.u64.wrap (hs * 6364136223846793005) + 1442695040888963407) = nxH hs from rfl, e24]) | (refine WA_draw (id := 5) mixedOk (by kernel_rfl) ?_; simp (maxSteps := 1000000) (disch := first | omega | rfl | decide | (simp only [List.length_cons, List.length_nil, List.length_append, LV] <;> omega)) only [go_sem, Nat.reduceAdd, Int.reduceAdd, Int.reduceSub, Int.reduceMul, Bool.not_true, Bool.not_false, hb, look_set hbl, List.set_set, hz, decide_eq_false ha, show IntKind.u64.wrap (IntKind.u64.wrap (hs * 6364136223846793005) + 1442695040888963407) = nxH hs from rfl, e24]) | (refine WA_seq (WA_draw (id := 6) mixedOk (by kernel_rfl) ?_); simp (maxSteps := 1000000) (disch := first | omega | rfl | decide | (simp only [List.length_cons, List.length_nil, List.length_append, LV] <;> omega)) only [go_sem, Nat.reduceAdd, Int.reduceAdd, Int.reduceSub, Int.reduceMul, Bool.not_true, Bool.not_false, hb, look_set hbl, List.set_set, hz, decide_eq_false ha, show IntKind.u64.wrap (IntKind.u64.wrap (hs * 6364136223846793005) + 1442695040888963407) = nxH hs from rfl, e24]) | (refine WA_draw (id := 6) mixedOk (by kernel_rfl) ?_; simp (maxSteps := 1000000) (disch := first | omega | rfl | decide | (simp only [List.length_cons, List.length_nil, List.length_append, LV] <;> omega)) only [go_sem, Nat.reduceAdd, Int.reduceAdd, Int.reduceSub, Int.reduceMul, Bool.not_true, Bool.not_false, hb, look_set hbl, List.set_set, hz, decide_eq_false ha, show IntKind.u64.wrap (IntKind.u64.wrap (hs * 6364136223846793005) + 1442695040888963407) = nxH hs from rfl, e24]) | refine WA_seq ?_ | refine WA_block ?_ | (refine WA_skip ?_; try simp only [go_sem]) | (refine WA_ret ?_; try simp only [go_sem]) | refine WA_ct rfl ?_ | refine WA_cf rfl ?_))
      (exact sR0)

theorem damage_E {h : List Blk} {b : Nat} {cv : Value} {a s n : Nat} (x : SrcE h b cv a s n) {t : ByteArray} (ht : t.size ≤ 1125899906842624) :
    ∃ (o : ByteArray) (a' k : Nat) (h' : List Blk), ((t.size = 0 ∧ k = 1 ∧ o.size = 1) ∨ (k = 3 ∧ o.size ≤ t.size + 1)) ∧ (a + k ≤ a' ∨ n ≤ a') ∧ SrcE h' b cv a' (gN gS k s) n ∧ Aft h h' b cv ∧ AC Tryd.prog 48 [pt b 0, .string t] h (.string o) h' := by
  have hbl := x.at.lt
  have a0 := x.at.more [⟨[.string ⟨#[48]⟩, .string ⟨#[49]⟩, .string ⟨#[55]⟩, .string ⟨#[57]⟩, .string ⟨#[97]⟩, .string ⟨#[102]⟩, .string ⟨#[103]⟩, .string ⟨#[65]⟩, .string ⟨#[45]⟩, .string ⟨#[47]⟩, .string ⟨#[59]⟩, .string ⟨#[58]⟩, .string ⟨#[44]⟩, .string ⟨#[32]⟩, .string ⟨#[124]⟩, .string ⟨#[10]⟩], true⟩]
  obtain ⟨x1, b1, h1, hx, _, _, g1, X1, a1, c1⟩ := next_E (x.app [⟨[.string ⟨#[48]⟩, .string ⟨#[49]⟩, .string ⟨#[55]⟩, .string ⟨#[57]⟩, .string ⟨#[97]⟩, .string ⟨#[102]⟩, .string ⟨#[103]⟩, .string ⟨#[65]⟩, .string ⟨#[45]⟩, .string ⟨#[47]⟩, .string ⟨#[59]⟩, .string ⟨#[58]⟩, .string ⟨#[44]⟩, .string ⟨#[32]⟩, .string ⟨#[124]⟩, .string ⟨#[10]⟩], true⟩]) (N := 16) (by omega) (by omega)
  have hS := a1.keep h.length ⟨[.string ⟨#[48]⟩, .string ⟨#[49]⟩, .string ⟨#[55]⟩, .string ⟨#[57]⟩, .string ⟨#[97]⟩, .string ⟨#[102]⟩, .string ⟨#[103]⟩, .string ⟨#[65]⟩, .string ⟨#[45]⟩, .string ⟨#[47]⟩, .string ⟨#[59]⟩, .string ⟨#[58]⟩, .string ⟨#[44]⟩, .string ⟨#[32]⟩, .string ⟨#[124]⟩, .string ⟨#[10]⟩], true⟩ (by omega) (by simp)
  obtain ⟨c, hc, hcx⟩ := sg_at x1 hx
  have A1 := a0.trans a1
  have n1 := A1.len
  by_cases ht0 : t.size = 0
  · have hb0 : (t.size == 0) = true := by rw [ht0]; rfl
    refine ⟨c, b1, 1, h1, .inl ⟨ht0, rfl, hc⟩, by omega, by rw [gN_one]; exact X1, A1, ?_⟩
    (refine AC_begin (fun _ _ => Tryd.call48 _ _) Tryd.func48 rfl Tryd.ntmps48 Tryd.results48 (fun hwf => ?_); simp only [List.length_cons, List.length_nil, Nat.reduceAdd, Nat.reduceSub, List.replicate, List.cons_append, List.nil_append])
    (refine sW (And.intro @hS (And.intro @hcx @hb0)) @c1 ?_)
    refine ret_full (by first | exact .inr rfl | exact .inl rfl) n1 ?_
    simp (maxSteps := 1000000) (disch := first | omega | rfl | decide | (simp only [List.length_cons, List.length_nil, List.length_append, LV] <;> omega)) only [go_sem, Nat.reduceAdd, Int.reduceAdd, Int.reduceSub, Int.reduceMul, Bool.not_true, Bool.not_false]
    try rfl
  · have hb0 : (t.size == 0) = false := by simpa using ht0
    obtain ⟨k, b2, h2, hk, _, _, g2, X2, a2, c2⟩ := next_E X1 (N := t.size) (by omega) (by omega)
    obtain ⟨y, b3, h3, hy, _, _, g3, X3, a3, c3⟩ := next_E X2 (N := 3) (by omega) (by omega)
    have A := (A1.trans a2).trans a3
    have hlen := A.len
    have s0 : (t.extract 0 k ++ c).size = (t.extract 0 k).size + c.size := ByteArray.size_append
    have s2 : (t.extract 0 k).size = min k t.size - 0 := ByteArray.size_extract
    by_cases h0 : y = 0
    · subst h0
      have s1 : (t.extract 0 k ++ c ++ t.extract (k + 1) t.size).size = (t.extract 0 k ++ c).size + (t.extract (k + 1) t.size).size := ByteArray.size_append
      have s3 : (t.extract (k + 1) t.size).size = min t.size t.size - (k + 1) := ByteArray.size_extract
      refine ⟨t.extract 0 k ++ c ++ t.extract (k + 1) t.size, b3, 3, h3, .inr ⟨rfl, by omega⟩, by omega, by rw [gN_three]; exact X3, A, ?_⟩
      (refine AC_begin (fun _ _ => Tryd.call48 _ _) Tryd.func48 rfl Tryd.ntmps48 Tryd.results48 (fun hwf => ?_); simp only [List.length_cons, List.length_nil, Nat.reduceAdd, Nat.reduceSub, List.replicate, List.cons_append, List.nil_append])
      (repeat (first | ((first | (refine And.intro ?_ ?_; focus exact PLA) | ((first | with_reducible apply callB_i | with_reducible apply callK_intro | with_reducible apply callQ_i); (focus (first | assumption | ((first | with_reducible apply c1 | with_reducible apply c2 | with_reducible apply c3) <;> (first | assumption | rfl | (simp (disch := omega) only [go_sem]; first | done | rfl) | omega | decide | (simp; done))))); (try exact WP_au)) | refine WA_seq (WA_region ?_) | refine WA_region ?_ | refine WA_exit ?_); try simp (maxSteps := 1000000) (disch := first | omega | rfl | decide | (simp only [List.length_cons, List.length_nil, List.length_append, LV] <;> omega)) only [go_sem, Nat.reduceAdd, Int.reduceAdd, Int.reduceSub, Int.reduceMul, Bool.not_true, Bool.not_false, hS, hcx, hb0, beq_self_eq_true]) | (refine WA_seq (WA_draw (id := 8) mixedOk (by kernel_rfl) ?_); simp (maxSteps := 1000000) (disch := first | omega | rfl | decide | (simp only [List.length_cons, List.length_nil, List.length_append, LV] <;> omega)) only [go_sem, Nat.reduceAdd, Int.reduceAdd, Int.reduceSub, Int.reduceMul, Bool.not_true, Bool.not_false, hS, hcx, hb0, beq_self_eq_true]) | (refine WA_draw (id := 8) mixedOk (by kernel_rfl) ?_; simp (maxSteps := 1000000) (disch := first | omega | rfl | decide | (simp only [List.length_cons, List.length_nil, List.length_append, LV] <;> omega)) only [go_sem, Nat.reduceAdd, Int.reduceAdd, Int.reduceSub, Int.reduceMul, Bool.not_true, Bool.not_false, hS, hcx, hb0, beq_self_eq_true]) | refine WA_seq ?_ | refine WA_block ?_ | (refine WA_skip ?_; try simp only [go_sem]) | (refine WA_ret ?_; try simp only [go_sem]) | refine WA_ct rfl ?_ | refine WA_cf rfl ?_))
      refine ret_full (by first | exact .inr rfl | exact .inl rfl) hlen ?_
      simp (maxSteps := 1000000) (disch := first | omega | rfl | decide | (simp only [List.length_cons, List.length_nil, List.length_append, LV] <;> omega)) only [go_sem, Nat.reduceAdd, Int.reduceAdd, Int.reduceSub, Int.reduceMul, Bool.not_true, Bool.not_false]
      try rfl
    · have hy0 : (y == 0) = false := by simpa using h0
      by_cases h1y : y = 1
      · subst h1y
        have s1 : (t.extract 0 k ++ t.extract (k + 1) t.size).size = (t.extract 0 k).size + (t.extract (k + 1) t.size).size := ByteArray.size_append
        have s3 : (t.extract (k + 1) t.size).size = min t.size t.size - (k + 1) := ByteArray.size_extract
        refine ⟨t.extract 0 k ++ t.extract (k + 1) t.size, b3, 3, h3, .inr ⟨rfl, by omega⟩, by omega, by rw [gN_three]; exact X3, A, ?_⟩
        (refine AC_begin (fun _ _ => Tryd.call48 _ _) Tryd.func48 rfl Tryd.ntmps48 Tryd.results48 (fun hwf => ?_); simp only [List.length_cons, List.length_nil, Nat.reduceAdd, Nat.reduceSub, List.replicate, List.cons_append, List.nil_append])
        (repeat (first | ((first | (refine And.intro ?_ ?_; focus exact PLA) | ((first | with_reducible apply callB_i | with_reducible apply callK_intro | with_reducible apply callQ_i); (focus (first | assumption | ((first | with_reducible apply c1 | with_reducible apply c2 | with_reducible apply c3) <;> (first | assumption | rfl | (simp (disch := omega) only [go_sem]; first | done | rfl) | omega | decide | (simp; done))))); (try exact WP_au)) | refine WA_seq (WA_region ?_) | refine WA_region ?_ | refine WA_exit ?_); try simp (maxSteps := 1000000) (disch := first | omega | rfl | decide | (simp only [List.length_cons, List.length_nil, List.length_append, LV] <;> omega)) only [go_sem, Nat.reduceAdd, Int.reduceAdd, Int.reduceSub, Int.reduceMul, Bool.not_true, Bool.not_false, hS, hcx, hb0, hy0, beq_self_eq_true]) | (refine WA_seq (WA_draw (id := 10) mixedOk (by kernel_rfl) ?_); simp (maxSteps := 1000000) (disch := first | omega | rfl | decide | (simp only [List.length_cons, List.length_nil, List.length_append, LV] <;> omega)) only [go_sem, Nat.reduceAdd, Int.reduceAdd, Int.reduceSub, Int.reduceMul, Bool.not_true, Bool.not_false, hS, hcx, hb0, hy0, beq_self_eq_true]) | (refine WA_draw (id := 10) mixedOk (by kernel_rfl) ?_; simp (maxSteps := 1000000) (disch := first | omega | rfl | decide | (simp only [List.length_cons, List.length_nil, List.length_append, LV] <;> omega)) only [go_sem, Nat.reduceAdd, Int.reduceAdd, Int.reduceSub, Int.reduceMul, Bool.not_true, Bool.not_false, hS, hcx, hb0, hy0, beq_self_eq_true]) | refine WA_seq ?_ | refine WA_block ?_ | (refine WA_skip ?_; try simp only [go_sem]) | (refine WA_ret ?_; try simp only [go_sem]) | refine WA_ct rfl ?_ | refine WA_cf rfl ?_))
        refine ret_full (by first | exact .inr rfl | exact .inl rfl) hlen ?_
        simp (maxSteps := 1000000) (disch := first | omega | rfl | decide | (simp only [List.length_cons, List.length_nil, List.length_append, LV] <;> omega)) only [go_sem, Nat.reduceAdd, Int.reduceAdd, Int.reduceSub, Int.reduceMul, Bool.not_true, Bool.not_false]
        try rfl
      · have hy1 : (y == 1) = false := by simpa using h1y
        have s1 : (t.extract 0 k ++ c ++ t.extract k t.size).size = (t.extract 0 k ++ c).size + (t.extract k t.size).size := ByteArray.size_append
        have s3 : (t.extract k t.size).size = min t.size t.size - k := ByteArray.size_extract
        refine ⟨t.extract 0 k ++ c ++ t.extract k t.size, b3, 3, h3, .inr ⟨rfl, by omega⟩, by omega, by rw [gN_three]; exact X3, A, ?_⟩
        (refine AC_begin (fun _ _ => Tryd.call48 _ _) Tryd.func48 rfl Tryd.ntmps48 Tryd.results48 (fun hwf => ?_); simp only [List.length_cons, List.length_nil, Nat.reduceAdd, Nat.reduceSub, List.replicate, List.cons_append, List.nil_append])
        (repeat (first | ((first | (refine And.intro ?_ ?_; focus exact PLA) | ((first | with_reducible apply callB_i | with_reducible apply callK_intro | with_reducible apply callQ_i); (focus (first | assumption | ((first | with_reducible apply c1 | with_reducible apply c2 | with_reducible apply c3) <;> (first | assumption | rfl | (simp (disch := omega) only [go_sem]; first | done | rfl) | omega | decide | (simp; done))))); (try exact WP_au)) | refine WA_seq (WA_region ?_) | refine WA_region ?_ | refine WA_exit ?_); try simp (maxSteps := 1000000) (disch := first | omega | rfl | decide | (simp only [List.length_cons, List.length_nil, List.length_append, LV] <;> omega)) only [go_sem, Nat.reduceAdd, Int.reduceAdd, Int.reduceSub, Int.reduceMul, Bool.not_true, Bool.not_false, hS, hcx, hb0, hy0, hy1]) | (refine WA_seq (WA_draw (id := 11) mixedOk (by kernel_rfl) ?_); simp (maxSteps := 1000000) (disch := first | omega | rfl | decide | (simp only [List.length_cons, List.length_nil, List.length_append, LV] <;> omega)) only [go_sem, Nat.reduceAdd, Int.reduceAdd, Int.reduceSub, Int.reduceMul, Bool.not_true, Bool.not_false, hS, hcx, hb0, hy0, hy1]) | (refine WA_draw (id := 11) mixedOk (by kernel_rfl) ?_; simp (maxSteps := 1000000) (disch := first | omega | rfl | decide | (simp only [List.length_cons, List.length_nil, List.length_append, LV] <;> omega)) only [go_sem, Nat.reduceAdd, Int.reduceAdd, Int.reduceSub, Int.reduceMul, Bool.not_true, Bool.not_false, hS, hcx, hb0, hy0, hy1]) | refine WA_seq ?_ | refine WA_block ?_ | (refine WA_skip ?_; try simp only [go_sem]) | (refine WA_ret ?_; try simp only [go_sem]) | refine WA_ct rfl ?_ | refine WA_cf rfl ?_))
        refine ret_full (by first | exact .inr rfl | exact .inl rfl) hlen ?_
        simp (maxSteps := 1000000) (disch := first | omega | rfl | decide | (simp only [List.length_cons, List.length_nil, List.length_append, LV] <;> omega)) only [go_sem, Nat.reduceAdd, Int.reduceAdd, Int.reduceSub, Int.reduceMul, Bool.not_true, Bool.not_false]
        try rfl
/-- A run that ends: each state stops, or goes on to one nearer to the end. -/
theorem run_ex {S : Type} {J : Nat → S → Prop} {R : S → S → Prop} {Z : S → Prop} (hs : ∀ m s, J m s → Z s ∨ ∃ m' t, m' < m ∧ J m' t ∧ R s t) : ∀ m s, J m s → ∃ (K : Nat) (f : Nat → S), f 0 = s ∧ (∀ k, k ≤ K → ∃ m', J m' (f k)) ∧ (∀ k, k < K → R (f k) (f (k + 1))) ∧ Z (f K) := fun m => by
  induction m using Nat.strongRecOn with
  | ind m ih =>
    intro s hj
    rcases hs m s hj with hz | ⟨m', t, hm, hj', hr⟩
    · exact ⟨0, fun _ => s, rfl, fun _ _ => ⟨m, hj⟩, fun k hk => absurd hk (Nat.not_lt_zero k), hz⟩
    · obtain ⟨K, f, f0, fJ, fR, fZ⟩ := ih m' hm t hj'
      refine ⟨K + 1, fun k => if k = 0 then s else f (k - 1), rfl, fun k hk => ?_, fun k hk => ?_, ?_⟩
      · by_cases h0 : k = 0
        · simp only [if_pos h0]; exact ⟨m, hj⟩
        · simp only [if_neg h0]; exact fJ (k - 1) (by omega)
      · by_cases h0 : k = 0
        · subst h0
          show R s (f 0)
          rw [f0]; exact hr
        · show R (if k = 0 then s else f (k - 1)) (f (k + 1 - 1))
          rw [if_neg h0, show k + 1 - 1 = (k - 1) + 1 by omega]
          exact fR (k - 1) (by omega)
      · show Z (f (K + 1 - 1))
        exact fZ
structure DmS where
  M : List Blk
  t : ByteArray
theorem drPam_op {h : List Blk} {cv : Value} (c : Cv h cv) : ∃ (t : ByteArray) (H : List Blk), t.size ≤ 2147483648 ∧ (∃ A, H = h ++ A) ∧ Cv H cv ∧ AC Tryd.prog 20 [cv] h (.string t) H := by
  obtain ⟨h1, s1, e1, c1⟩ := from_aft c
  obtain ⟨f, h2, a2, c2⟩ := l03Draw_aft s1 285
  obtain ⟨a0, s0, n0, X0⟩ := a2.src.exact
  have hn0 : n0 ≤ 4096 := by obtain ⟨_, _, _, _, _, _, h, _⟩ := X0; exact h
  obtain ⟨ns, hns, hlt, hz1, hz2⟩ := gen_stop (gN gS 4096 s0)
  rw [← gN_add] at hz1 hz2
  obtain ⟨E, hE⟩ : ∃ E, E = 4096 + ns := ⟨_, rfl⟩
  rw [← Nat.add_assoc] at hz2
  rw [← hE] at hz1 hz2
  obtain ⟨K, st, e0, hJ, hR, hZ⟩ := run_ex (S := DmS)
    (J := fun m s => ∃ (d a : Nat), m + d = E + 2 ∧ d % 2 = 0 ∧ 4 * s.t.size ≤ 140 + d ∧ (a0 + d ≤ a ∨ n0 ≤ a) ∧ SrcE s.M h.length cv a (gN gS d s0) n0 ∧ Aft h2 s.M h.length cv)
    (R := fun s s' => ∃ M1, AC Tryd.prog 32 [pt h.length 0, .int .i64 ((3 : Nat) : Int)] s.M (.int .i64 ((0 : Nat) : Int)) M1 ∧ AC Tryd.prog 48 [pt h.length 0, .string s.t] M1 (.string s'.t) s'.M)
    (Z := fun s => ∃ (v : Nat) (M1 : List Blk), (v == 0) = false ∧ Aft h2 M1 h.length cv ∧ AC Tryd.prog 32 [pt h.length 0, .int .i64 ((3 : Nat) : Int)] s.M (.int .i64 v) M1)
    (fun m s ⟨d, a, i1, i2, i3, i4, i5, i6⟩ => by
      obtain ⟨v, a', M1, hv, hvx, g1, g2, X1, r1, d1⟩ := next_E i5 (N := 3) (by omega) (by omega)
      by_cases h0 : v = 0
      · subst h0
        refine .inr ?_
        have hne : d < E := by
          rcases Nat.lt_or_ge d E with hd | hd
          · exact hd
          · have hd2 : d = E ∨ d = E + 2 := by omega
            have hv0 := hvx (by omega)
            rcases hd2 with rfl | rfl
            · exact absurd hv0.symm hz1
            · exact absurd hv0.symm hz2
        obtain ⟨o, a'', k, M2, hk, g3, X2, r2, d2⟩ := damage_E X1 (t := s.t) (by omega)
        rw [← gN_one (f := gS) (gN gS d s0), ← gN_add, ← gN_add] at X2
        refine ⟨m - (1 + k), ⟨M2, o⟩, by omega, ⟨d + (1 + k), a'', ?_, ?_, ?_, ?_, X2, i6.trans (r1.trans r2)⟩, M1, d1, d2⟩
        · rcases hk with ⟨_, rfl, _⟩ | ⟨rfl, _⟩ <;> omega
        · rcases hk with ⟨_, rfl, _⟩ | ⟨rfl, _⟩ <;> omega
        · show 4 * o.size ≤ 140 + (d + (1 + k))
          rcases hk with ⟨_, rfl, _⟩ | ⟨rfl, _⟩ <;> omega
        · omega
      · exact .inl ⟨v, M1, by simpa using h0, i6.trans r1, d1⟩)
    (E + 2) ⟨h2, mtT f⟩ ⟨0, a0, rfl, rfl, by show 4 * (mtT f).size ≤ 140 + 0; rw [mtT_size]; omega, .inl (Nat.le_refl _), X0, by have := a2.src.more []; rw [List.append_nil] at this; exact this⟩
  obtain ⟨vz, Mz, hvz, az, dz⟩ := hZ
  obtain ⟨mz, dd, aa, j1, j2, j3, j4, j5, j6⟩ := hJ K (Nat.le_refl _)
  obtain ⟨Mq, hMq⟩ : ∃ Mq, Mq = (st K).M := ⟨_, rfl⟩
  obtain ⟨tq, htq⟩ : ∃ tq, tq = (st K).t := ⟨_, rfl⟩
  rw [← hMq] at dz j6
  rw [← htq] at j3
  have e : ∃ L, Mz = h ++ L := (a2.trans az).app h (Nat.le_refl _) e1
  have hlen : h.length ≤ Mz.length := app_len e
  refine ⟨tq, Mz, by omega, e, cv_app c e, ?_⟩
  have hle : ∀ k, k ≤ K → h.length ≤ (st k).M.length := fun k hk => by
    obtain ⟨_, _, _, _, _, _, _, _, r⟩ := hJ k hk
    have := r.len
    have := (a2.len)
    obtain ⟨L, rfl⟩ := e1
    simp at *
    omega
  (refine AC_begin (fun _ _ => Tryd.call20 _ _) Tryd.func20 rfl Tryd.ntmps20 Tryd.results20 (fun hwf => ?_); simp only [List.length_cons, List.length_nil, Nat.reduceAdd, Nat.reduceSub, List.replicate, List.cons_append, List.nil_append])
  (refine sW0 (And.intro @c1 (And.intro @c2 @l03T_ac)) ?_)
  refine WA_forH (fun k => [(4, .string (st k).t), (10, J), (11, J), (12, J), (13, J), (14, J), (15, J)]) (fun k => (st k).M) (K) ?_ ?_ ?_ <;> (try simp only [patT_cons, patT_nil, patL_cons, patL_nil, list_set_zero, list_set_succ, blk_set_zero, blk_set_succ])
  · have z0 : (st 0).M = h2 := by rw [e0]
    have z1 : (st 0).t = mtT f := by rw [e0]
    have l0 := hle 0 (Nat.zero_le _)
    rw [z0] at l0
    rw [z0, z1]
    (exact sA0)
  · intro k hk
    obtain ⟨M1, d1, d2⟩ := hR k hk
    have l0 := hle (k + 1) hk
    (refine sW0 (And.intro @d1 @d2) ?_)
    (exact sA0)
  · rw [← hMq, ← htq]
    (refine sW @hvz @dz ?_)
    refine ret_full (by first | exact .inr rfl | exact .inl rfl) hlen ?_
    simp (maxSteps := 1000000) (disch := first | omega | rfl | decide | (simp only [List.length_cons, List.length_nil, List.length_append, LV] <;> omega)) only [go_sem, Nat.reduceAdd, Int.reduceAdd, Int.reduceSub, Int.reduceMul, Bool.not_true, Bool.not_false]
    try rfl

end Go.Proofs.YtalbdgkbinndlaaDoor
/- Draws for the law on branches. -/
namespace Go.Proofs.YtalbdgkbinndlaaDoor
set_option linter.unusedSimpArgs false
set_option linter.unusedVariables false
set_option maxRecDepth 20000
set_option maxHeartbeats 1000000
open Go.Abs

theorem drBrn_op {H : List Blk} {cv : Value} (c : Cv H cv) : ∃ (m : Int) (f : Nat → UInt8), AC Tryd.prog 5 [cv] H (.tuple #[.int .i64 m, .agg (Bs 16 f).toArray]) H := by
  obtain ⟨m, f, L, d⟩ := one_ex (c.app [⟨Bs 16 zeroF, true⟩])
  refine ⟨m, f, ?_⟩
  rw [List.append_assoc] at d
  (refine AC_begin (fun _ _ => Tryd.call5 _ _) Tryd.func5 rfl Tryd.ntmps5 Tryd.results5 (fun hwf => ?_); simp only [List.length_cons, List.length_nil, Nat.reduceAdd, Nat.reduceSub, List.replicate, List.cons_append, List.nil_append])
  (repeat (first | ((first | (refine And.intro ?_ ?_; focus exact PLA) | ((first | with_reducible apply callB_i | with_reducible apply callK_intro | with_reducible apply callQ_i); (focus (first | assumption | (with_reducible apply d <;> (first | assumption | rfl | (simp (disch := omega) only [go_sem]; first | done | rfl) | omega | decide | (simp; done))))); (try exact WP_au)) | refine WA_seq (WA_region ?_) | refine WA_region ?_ | refine WA_exit ?_); try simp (maxSteps := 1000000) (disch := first | omega | rfl | decide | (simp only [List.length_cons, List.length_nil, List.length_append, LV] <;> omega)) only [go_sem, Nat.reduceAdd, Int.reduceAdd, Int.reduceSub, Int.reduceMul, Bool.not_true, Bool.not_false]) | (refine (WA_rb (id := 2) [3] (SubM.refl _) mixedOk ?_); simp only [List.size_toArray, List.length_cons, List.length_nil]; (repeat (first | ((first | (refine And.intro ?_ ?_; focus exact PLA) | refine RB_take false [0, 2] 2 (by rfl) (by kernel_rfl) (by decide) (by decide +kernel) ?_ | refine RB_take true [1] 1 (by rfl) (by kernel_rfl) (by decide) (by decide +kernel) ?_ | refine RB_exec 3 _ (by rfl) (by decide +kernel) (by decide +kernel) ?_ | refine RB_done (by decide +kernel) ?_); try simp (maxSteps := 1000000) (disch := first | omega | rfl | decide | (simp only [List.length_cons, List.length_nil, List.length_append, LV] <;> omega)) only [go_sem, Nat.reduceAdd, Int.reduceAdd, Int.reduceSub, Int.reduceMul, Bool.not_true, Bool.not_false])))) | refine WA_seq ?_ | refine WA_block ?_ | (refine WA_skip ?_; try simp only [go_sem]) | (refine WA_ret ?_; try simp only [go_sem]) | refine WA_ct rfl ?_ | refine WA_cf rfl ?_))
  all_goals (exact sR0)

theorem drMat_op {H : List Blk} {cv : Value} (c : Cv H cv) : ∃ (f : Nat → UInt8), AC Tryd.prog 17 [cv] H (.agg (Bs 16 f).toArray) H := by
  obtain ⟨m, f, L, d⟩ := one_ex (c.app [⟨Bs 16 zeroF, true⟩])
  refine ⟨f, ?_⟩
  rw [List.append_assoc] at d
  (refine AC_begin (fun _ _ => Tryd.call17 _ _) Tryd.func17 rfl Tryd.ntmps17 Tryd.results17 (fun hwf => ?_); simp only [List.length_cons, List.length_nil, Nat.reduceAdd, Nat.reduceSub, List.replicate, List.cons_append, List.nil_append])
  (refine sW0 @d ?_)
  (exact sR0)

theorem Bs_snocB (n : Nat) (f : Nat → UInt8) (x : UInt8) : Bs n f ++ [B x] = Bs (n + 1) (upd f n x) := by
  unfold Bs
  rw [List.range_succ, List.map_append]
  congr 1
  · refine List.map_congr_left fun i hi => ?_
    have := List.mem_range.1 hi
    unfold upd; rw [if_neg (by omega)]
  · show [_] = [B (upd f n x n)]
    unfold upd; rw [if_pos rfl]
theorem Bs_snocC {n : Nat} (f : Nat → UInt8) : Bs n f ++ [B (f n)] = Bs (n + 1) f := by
  unfold Bs; rw [List.range_succ, List.map_append]; rfl
structure CcD where
  M : List Blk
  b : Nat
  v : Nat → UInt8
theorem drCir_op {h : List Blk} {cv : Value} (c : Cv h cv) : ∃ (v : Nat → UInt8) (n b : Nat) (H : List Blk), n ≤ 5 ∧ (∃ A, H = h ++ A) ∧ Cv H cv ∧ H[b]? = some ⟨Bs n v, true⟩ ∧ AC Tryd.prog 14 [cv] h (sl b 0 n 1) H := by
  obtain ⟨h1, s1, e1, c1⟩ := from_aft c
  have hl1 := s1.lt
  have a0 := s1.more [⟨[], true⟩]
  obtain ⟨w, h4, hw, a3, d3⟩ := pickL_aft a0.src [.int .i64 4, .int .i64 4, .int .i64 4, .int .i64 4, .int .i64 4, .int .i64 3, .int .i64 5, .int .i64 0] (n := 8) rfl rfl (by omega) (by omega)
  obtain ⟨n, rfl, hn⟩ : ∃ n : Nat, w = n ∧ n ≤ 5 := by
    obtain ⟨i, hi, e⟩ := hw
    match i, hi, e with
    | 0, _, e => cases e; exact ⟨4, rfl, by omega⟩
    | 1, _, e => cases e; exact ⟨4, rfl, by omega⟩
    | 2, _, e => cases e; exact ⟨4, rfl, by omega⟩
    | 3, _, e => cases e; exact ⟨4, rfl, by omega⟩
    | 4, _, e => cases e; exact ⟨4, rfl, by omega⟩
    | 5, _, e => cases e; exact ⟨3, rfl, by omega⟩
    | 6, _, e => cases e; exact ⟨5, rfl, by omega⟩
    | 7, _, e => cases e; exact ⟨0, rfl, by omega⟩
    | n + 8, h, _ => exact absurd h (by omega)
  have A0 := a0.trans a3
  have hB := a3.keep h1.length ⟨[], true⟩ (by omega) (by simp)
  simp only [List.length_append, List.length_cons, List.length_nil, List.append_assoc, List.cons_append, List.nil_append, Nat.zero_add] at d3
  obtain ⟨st, e0, hI, hRt⟩ := seq_ex (S := CcD) (n := n)
    (I := fun k s => s.M[s.b]? = some ⟨Bs k s.v, true⟩ ∧ Aft h1 s.M h.length cv ∧ h1.length ≤ s.b)
    (R := fun k s t => ∃ (y : UInt8) (M1 : List Blk), AC Tryd.prog 40 [pt h.length 0] s.M (B y) M1 ∧ M1[s.b]? = some ⟨Bs k s.v, true⟩ ∧ t = ⟨M1.set s.b dead ++ [⟨[B y], true⟩, ⟨Bs (k + 1) (upd s.v k y), true⟩], M1.length + 1, upd s.v k y⟩)
    ⟨h4, h1.length, fun _ => 0⟩ ⟨hB, A0, Nat.le_refl _⟩ (fun k hk s0 ⟨i1, i2, i3⟩ => by
      obtain ⟨y, M1, b1, f1⟩ := drawByte_aft i2.src
      have j1 := b1.keep _ _ (by omega) i1
      have hS := (i2.trans b1).set s1 (i := s0.b) i3 dead
      have hM := hS.trans (hS.src.more [⟨[B y], true⟩, ⟨Bs (k + 1) (upd s0.v k y), true⟩])
      refine ⟨_, ⟨?_, hM, ?_⟩, y, M1, f1, j1, rfl⟩
      · show (M1.set s0.b dead ++ [_, _])[M1.length + 1]? = _
        rw [List.getElem?_append_right (by simp), List.length_set]
        simp
      · have := (i2.trans b1).len
        show h1.length ≤ M1.length + 1
        omega)
  obtain ⟨f1, f2, f3⟩ := hI n (Nat.le_refl _)
  have e : ∃ A, (st n).M = h ++ A := f2.app h (Nat.le_refl _) e1
  have hlen := app_len e
  refine ⟨(st n).v, n, (st n).b, (st n).M, hn, e, cv_app c e, f1, ?_⟩
  (refine AC_begin (fun _ _ => Tryd.call14 _ _) Tryd.func14 rfl Tryd.ntmps14 Tryd.results14 (fun hwf => ?_); simp only [List.length_cons, List.length_nil, Nat.reduceAdd, Nat.reduceSub, List.replicate, List.cons_append, List.nil_append])
  (refine sW0 (And.intro @c1 @d3) ?_)
  refine WA_forH (fun k => [(4, sl (st k).b 0 k 1), (5, .int .i64 ((n - k : Nat))), (12, J), (13, J), (14, J), (15, J), (16, J), (17, J), (18, J), (19, J), (20, J)]) (fun k => (st k).M) (n) ?_ ?_ ?_ <;> (try simp only [patT_cons, patT_nil, patL_cons, patL_nil, list_set_zero, list_set_succ, blk_set_zero, blk_set_succ])
  · have z0 : (st 0).M = h4 := by rw [e0]
    have z1 : (st 0).b = h1.length := by rw [e0]
    have l2 : h.length ≤ h4.length := Nat.le_trans (app_len e1) A0.len
    rw [z0, z1]
    (exact sA0)
  · intro k hk
    obtain ⟨y, M1, g1, j1, e⟩ := hRt k hk
    have q1 := (hI (k + 1) hk).2.1.len
    have l1 := app_len e1
    have q3 : h.length ≤ (st (k + 1)).M.length := by omega
    have hgo : decide (0 < ((n - k : Nat) : Int)) = true := decide_eq_true (by omega)
    have hst : IntKind.i64.wrap (((n - k : Nat) : Int) - 1) = ((n - (k + 1) : Nat) : Int) := by
      rw [show ((n - k : Nat) : Int) - 1 = ((n - (k + 1) : Nat) : Int) by omega]; exact wrap_N (by omega)
    rw [e] at q3 ⊢
    clear q1
    (refine sW (And.intro @hgo (And.intro @hst (And.intro (look_old j1) (And.intro @j1 (And.intro (set_app (blt j1)) (And.intro @sub1 (Bs_snocB k (st k).v y))))))) @g1 ?_)
    (exact sA0)
  · (refine sN (And.intro @Nat.sub_self (And.intro @Int.natCast_zero @Int.lt_irrefl)) ?_)
    refine ret_full (by first | exact .inr rfl | exact .inl rfl) hlen ?_
    simp (maxSteps := 1000000) (disch := first | omega | rfl | decide | (simp only [List.length_cons, List.length_nil, List.length_append, LV] <;> omega)) only [go_sem, Nat.reduceAdd, Int.reduceAdd, Int.reduceSub, Int.reduceMul, Bool.not_true, Bool.not_false]
    try rfl

def caP (s0 st : Nat) : Nat → UInt8 := fun k => UInt8.ofNat ((s0 + st * k) % 256)
structure CaD where
  M : List Blk
  b : Nat
  d : Nat
attribute [local irreducible] caP
theorem drCau_op {h : List Blk} {cv : Value} (c : Cv h cv) : ∃ (m : Int) (n b d : Nat) (f g : Nat → UInt8) (H : List Blk), n ≤ 5 ∧ H[b]? = some ⟨Bs n f, true⟩ ∧ H[d]? = some ⟨Bs 4 g, true⟩ ∧ (∃ A, H = h ++ A) ∧ Cv H cv ∧ AC Tryd.prog 11 [cv] h (.tuple #[.int .i64 m, sl b 0 n 1, sl d 0 4 1]) H := by
  obtain ⟨h1, s1, e1, c1⟩ := from_aft c
  have hl1 := s1.lt
  obtain ⟨m, h2, a2, c2⟩ := spoil_aft s1
  obtain ⟨x3, h3, hx3, a3, c3⟩ := next_aft a2.src (N := 256) (by omega) (by omega)
  obtain ⟨x4, h4, hx4, a4, c4⟩ := next_aft a3.src (N := 128) (by omega) (by omega)
  obtain ⟨sp, hsp, hsp2⟩ : ∃ sp, 1 + 2 * x4 = sp ∧ sp ≤ 255 := ⟨_, rfl, by omega⟩
  have A0 := (a2.trans a3).trans a4
  have A1 := A0.trans (a4.src.more [⟨[], true⟩, ⟨[], true⟩])
  have l4 := A0.len
  obtain ⟨st, e0, hI, hRt⟩ := seq_ex (S := CaD) (n := 4)
    (I := fun k s => s.M[s.b]? = some ⟨Bs k (caP x3 sp), true⟩ ∧ s.M[s.d]? = some ⟨Bs k (fun i => caP x3 sp (i + 4)), true⟩ ∧ Aft h1 s.M h.length cv ∧ (h1.length ≤ s.b ∧ h1.length ≤ s.d ∧ s.b ≠ s.d))
    (R := fun k s t => t = ⟨(s.M.set s.b dead).set s.d dead ++ ([⟨[B (caP x3 sp k)], true⟩, ⟨Bs (k + 1) (caP x3 sp), true⟩, ⟨[B (caP x3 sp (k + 4))], true⟩, ⟨Bs (k + 1) (fun i => caP x3 sp (i + 4)), true⟩] : List Blk), s.M.length + 1, s.M.length + 3⟩)
    ⟨h4 ++ [⟨[], true⟩, ⟨[], true⟩], h4.length, h4.length + 1⟩ ⟨by show (h4 ++ [_, _])[h4.length]? = _; simp [Bs], by show (h4 ++ [_, _])[h4.length + 1]? = _; simp [Bs], A1, l4, Nat.le_succ_of_le l4, by simp⟩ (fun k hk s0 ⟨i1, i2, i3, i4, i5, i6⟩ => by
      have hS := (i3.set s1 (i := s0.b) i4 dead).set s1 (i := s0.d) i5 dead
      have hM2 := hS.trans (hS.src.more [⟨[B (caP x3 sp k)], true⟩, ⟨Bs (k + 1) (caP x3 sp), true⟩, ⟨[B (caP x3 sp (k + 4))], true⟩, ⟨Bs (k + 1) (fun i => caP x3 sp (i + 4)), true⟩])
      have l0 := i3.len
      refine ⟨_, ⟨?_, ?_, hM2, ?_, ?_, ?_⟩, rfl⟩
      · show ((s0.M.set s0.b dead).set s0.d dead ++ [_, _, _, _])[s0.M.length + 1]? = _
        rw [List.getElem?_append_right (by simp), List.length_set, List.length_set]; simp
      · show ((s0.M.set s0.b dead).set s0.d dead ++ [_, _, _, _])[s0.M.length + 3]? = _
        rw [List.getElem?_append_right (by simp), List.length_set, List.length_set]; simp
      · show h1.length ≤ s0.M.length + 1
        omega
      · show h1.length ≤ s0.M.length + 3
        omega
      · show s0.M.length + 1 ≠ s0.M.length + 3
        omega)
  obtain ⟨f1, f2, f3, f4, f5, f6⟩ := hI 4 (Nat.le_refl _)
  obtain ⟨Mq, hMq⟩ : ∃ Mq, Mq = (st 4).M := ⟨_, rfl⟩
  obtain ⟨bq, hbq⟩ : ∃ bq, bq = (st 4).b := ⟨_, rfl⟩
  obtain ⟨dq, hdq⟩ : ∃ dq, dq = (st 4).d := ⟨_, rfl⟩
  rw [← hMq, ← hbq] at f1
  rw [← hMq, ← hdq] at f2
  rw [← hMq] at f3
  rw [← hbq] at f4 f6
  rw [← hdq] at f5 f6
  obtain ⟨y, h5, hy, a5, c5⟩ := next_aft f3.src (N := 12) (by omega) (by omega)
  have F5 := f3.trans a5
  have g1 := a5.keep _ _ (by omega) f1
  have g2 := a5.keep _ _ (by omega) f2
  have pre : ∀ (v w : Value) (Hf : List Blk), True := fun _ _ _ => trivial
  obtain ⟨v, n, b', f', g', Hf, hn, k1, k2, F, hy3⟩ : ∃ (v : Value) (n b' : Nat) (f' g' : Nat → UInt8) (Hf : List Blk), n ≤ 5 ∧ Hf[b']? = some ⟨Bs n f', true⟩ ∧ Hf[dq]? = some ⟨Bs 4 g', true⟩ ∧ Aft h1 Hf h.length cv ∧ ((y = 0 ∧ n = 4 ∧ b' = bq ∧ ∃ (i j : Nat) (M1 M2 : List Blk), i < 4 ∧ j < 4 ∧ AC Tryd.prog 32 [pt h.length 0, .int .i64 ((4 : Nat) : Int)] h5 (.int .i64 i) M1 ∧ AC Tryd.prog 32 [pt h.length 0, .int .i64 ((4 : Nat) : Int)] M1 (.int .i64 j) M2 ∧ M2[bq]? = some ⟨Bs 4 (caP x3 sp), true⟩ ∧ M2[dq]? = some ⟨Bs 4 (fun i => caP x3 sp (i + 4)), true⟩ ∧ Hf = M2.set dq ⟨Bs 4 (upd (fun i => caP x3 sp (i + 4)) i (caP x3 sp j)), true⟩) ∨
      (y = 1 ∧ n = 5 ∧ b' = h5.length + 1 ∧ Hf = h5.set bq dead ++ ([⟨[B 0], true⟩, ⟨Bs 5 (upd (caP x3 sp) 4 0), true⟩] : List Blk)) ∨ (((y == 0) = false ∧ (y == 1) = false) ∧ n = 4 ∧ b' = bq ∧ Hf = h5)) := by
    by_cases y0 : y = 0
    · obtain ⟨i, M1, hi, b1, d1⟩ := next_aft a5.src (N := 4) (by omega) (by omega)
      obtain ⟨j, M2, hj, b2, d2⟩ := next_aft b1.src (N := 4) (by omega) (by omega)
      have q1 := (b1.trans b2).keep _ _ (by omega) g1
      have q2 := (b1.trans b2).keep _ _ (by omega) g2
      exact ⟨.nilIface, 4, bq, caP x3 sp, _, _, by omega, set_at q1 (Ne.symm f6), look_set (blt q2), (F5.trans (b1.trans b2)).set s1 (i := dq) f5 _, .inl ⟨y0, rfl, rfl, i, j, M1, M2, hi, hj, d1, d2, q1, q2, rfl⟩⟩
    · by_cases y1 : y = 1
      · have hS := F5.set s1 (i := bq) f4 dead
        have hM := hS.trans (hS.src.more [⟨[B 0], true⟩, ⟨Bs 5 (upd (caP x3 sp) 4 0), true⟩])
        exact ⟨.nilIface, 5, h5.length + 1, upd (caP x3 sp) 4 0, fun i => caP x3 sp (i + 4), _, by omega, by rw [List.getElem?_append_right (by simp), List.length_set]; simp, look_old (set_at g2 f6) _, hM, .inr (.inl ⟨y1, rfl, rfl, rfl⟩)⟩
      · exact ⟨.nilIface, 4, bq, _, _, _, by omega, g1, g2, F5, .inr (.inr ⟨⟨by simpa using y0, by simpa using y1⟩, rfl, rfl, rfl⟩)⟩
  have e : ∃ A, Hf = h ++ A := F.app h (Nat.le_refl _) e1
  have hlen := app_len e
  have l1 := app_len e1
  refine ⟨m, n, b', dq, f', g', Hf, hn, k1, k2, e, cv_app c e, ?_⟩
  clear k1 k2 F pre
  (refine AC_begin (fun _ _ => Tryd.call11 _ _) Tryd.func11 rfl Tryd.ntmps11 Tryd.results11 (fun hwf => ?_); simp only [List.length_cons, List.length_nil, Nat.reduceAdd, Nat.reduceSub, List.replicate, List.cons_append, List.nil_append])
  (refine sW @hsp (And.intro @c1 (And.intro @c2 (And.intro @c3 @c4))) ?_)
  refine WA_forH (fun k => [(9, sl (st k).b 0 k 1), (10, sl (st k).d 0 k 1), (11, .int .i64 k), (24, J), (25, J), (26, J), (27, J), (28, J), (29, J), (30, J), (31, J), (32, J), (33, J), (34, J), (35, J), (36, J), (37, J), (38, J), (39, J), (40, J), (41, J), (42, J), (43, J), (44, J), (45, J), (46, J), (47, J), (48, J)]) (fun k => (st k).M) (4) ?_ ?_ ?_ <;> (try simp only [patT_cons, patT_nil, patL_cons, patL_nil, list_set_zero, list_set_succ, blk_set_zero, blk_set_succ])
  · have q0 : (st 0).M = h4 ++ [⟨[], true⟩, ⟨[], true⟩] := by rw [e0]
    have q1 : (st 0).b = h4.length := by rw [e0]
    have q2 : (st 0).d = h4.length + 1 := by rw [e0]
    rw [q0, q1, q2]
    have l0 : h.length ≤ (h4 ++ [(⟨[], true⟩ : Blk), ⟨[], true⟩]).length := by rw [List.length_append]; omega
    (exact sA0)
  · intro k hk
    have e := hRt k hk
    obtain ⟨i1, i2, i3, i4, i5, i6⟩ := hI k (by omega)
    have j2 := set_at (x := dead) i2 i6
    have q1 := (hI (k + 1) hk).2.2.1.len
    have q3 : h.length ≤ (st (k + 1)).M.length := by omega
    rw [e] at q3 ⊢
    clear q1
    have hp1 : UInt8.ofNat ((x3 + sp * k) % 256) = caP x3 sp k := by unfold caP; rfl
    have hp2 : UInt8.ofNat ((x3 + sp * (k + 4)) % 256) = caP x3 sp (k + 4) := by unfold caP; rfl
    have hsk : sp * k ≤ 25500 := Nat.le_trans (Nat.mul_le_mul hsp2 (show k ≤ 100 by omega)) (by omega)
    have hsk4 : sp * (k + 4) ≤ 25500 := Nat.le_trans (Nat.mul_le_mul hsp2 (show k + 4 ≤ 100 by omega)) (by omega)
    (refine sN (And.intro @hp1 (And.intro @hp2 (And.intro @i1 (And.intro (look_old i1) (And.intro (set_app (blt i1)) (And.intro (look_old j2) (And.intro (set_app (blt j2)) (And.intro @sub1 (And.intro (Bs_snocC (n := k) (caP x3 sp)) (Bs_snocC (n := k) (fun i => caP x3 sp (i + 4)))))))))))) ?_)
    try simp only [List.append_assoc, List.cons_append, List.nil_append, List.length_set, List.length_append, List.length_cons, List.length_nil]
    (exact sA0)
  · rw [← hMq, ← hbq, ← hdq]
    rcases hy3 with ⟨rfl, rfl, rfl, i, j, M1, M2, hi, hj, d1, d2, q1, q2, rfl⟩ | ⟨rfl, rfl, rfl, rfl⟩ | ⟨⟨y0, y1⟩, rfl, rfl, rfl⟩
    · (refine sW (And.intro @q1 @q2) (And.intro @c5 (And.intro @d1 @d2)) ?_)
      refine ret_full (by first | exact .inr rfl | exact .inl rfl) hlen ?_
      simp (maxSteps := 1000000) (disch := first | omega | rfl | decide | (simp only [List.length_cons, List.length_nil, List.length_append, LV] <;> omega)) only [go_sem, Nat.reduceAdd, Int.reduceAdd, Int.reduceSub, Int.reduceMul, Bool.not_true, Bool.not_false]
      try rfl
    · (refine sW (And.intro (show ((1 : Nat) == 0) = false from rfl) (And.intro @g1 (And.intro (look_old g1) (And.intro (set_app (blt g1)) (And.intro @sub1 @Bs_snocB))))) @c5 ?_)
      refine ret_full (by first | exact .inr rfl | exact .inl rfl) hlen ?_
      simp (maxSteps := 1000000) (disch := first | omega | rfl | decide | (simp only [List.length_cons, List.length_nil, List.length_append, LV] <;> omega)) only [go_sem, Nat.reduceAdd, Int.reduceAdd, Int.reduceSub, Int.reduceMul, Bool.not_true, Bool.not_false]
      try rfl
    · (refine sW (And.intro @y0 @y1) @c5 ?_)
      refine ret_full (by first | exact .inr rfl | exact .inl rfl) hlen ?_
      simp (maxSteps := 1000000) (disch := first | omega | rfl | decide | (simp only [List.length_cons, List.length_nil, List.length_append, LV] <;> omega)) only [go_sem, Nat.reduceAdd, Int.reduceAdd, Int.reduceSub, Int.reduceMul, Bool.not_true, Bool.not_false]
      try rfl

end Go.Proofs.YtalbdgkbinndlaaDoor
/- Ranks: the program. -/
namespace Go.Proofs.YtalbdgkbinndlaaDoor
set_option linter.unusedSimpArgs false
set_option linter.unusedVariables false
set_option maxRecDepth 20000
set_option maxHeartbeats 1000000
open Go.Abs

theorem rows_set {h : List Blk} {R : Nat → Blk} {k q : Nat} (hq : q < k) (x : Blk) (T : List Blk) : (rowsH h R k ++ T).set (h.length + q) x = rowsH h (upd R q x) k ++ T := by
  rw [List.set_append_left _ _ (by rw [rowsH_len]; omega)]
  congr 1
  unfold rowsH
  rw [List.set_append_right _ _ (by omega), show h.length + q - h.length = q by omega]
  congr 1
  apply List.ext_getElem?
  intro i
  rw [List.getElem?_set]
  by_cases e : q = i
  · subst e; simp [upd, hq]
  · rw [if_neg e]
    by_cases hi : i < k
    · simp [upd, hi, Ne.symm e]
    · simp [hi]
theorem look_tail1 (h : List Blk) (R : Nat → Blk) (k : Nat) (T : List Blk) : (rowsH h R k ++ T)[h.length + (k + 1)]? = T[1]? := by
  rw [List.getElem?_append_right (by rw [rowsH_len]; omega), rowsH_len]; congr 1; omega
theorem set_tail1 (h : List Blk) (R : Nat → Blk) (k : Nat) (T : List Blk) (x : Blk) : (rowsH h R k ++ T).set (h.length + (k + 1)) x = rowsH h R k ++ T.set 1 x := by
  rw [List.set_append_right _ _ (by rw [rowsH_len]; omega), rowsH_len]; congr 2; omega
/-- The rows. -/
def Rw (nc : Nat) (E : Nat → Nat → UInt8) : Nat → Blk := fun q => ⟨Bs nc (E q), true⟩
theorem Rw_upd (nc : Nat) (E : Nat → Nat → UInt8) (q : Nat) (g : Nat → UInt8) : upd (Rw nc E) q ⟨Bs nc g, true⟩ = Rw nc (upd E q g) := by
  funext i; unfold upd Rw; by_cases e : i = q
  · simp [e]
  · simp [e]
theorem Rw_pre (nc : Nat) (E : Nat → Nat → UInt8) (q : Nat) (g x : Nat → UInt8) : Rw nc (upd E q (pre nc g x)) = Rw nc (upd E q g) := by
  rw [← Rw_upd, ← Rw_upd, Bs_pre]
theorem Rw_plain (nc : Nat) (E : Nat → Nat → UInt8) (j : Nat) : (Rw nc E j).cells.all plainC = true := Bs_plain _ _
theorem row_look {h : List Blk} {nc k q : Nat} {E : Nat → Nat → UInt8} (hq : q < k) (T : List Blk) : (rowsH h (Rw nc E) k ++ T)[h.length + q]? = some ⟨Bs nc (E q), true⟩ := look_old (rowsH_get h _ hq) T
/-- The slices of the rows, as they stand. -/
def spF (b nc : Nat) (s : Nat → Nat) : Nat → Value := fun p => sl (b + s p) 0 nc 1
theorem spF_at (b nc : Nat) (s : Nat → Nat) (p : Nat) : spF b nc s p = sl (b + s p) 0 nc 1 := rfl
theorem spF_sw (b nc : Nat) (s : Nat → Nat) (i k : Nat) : upd (upd (spF b nc s) i (sl (b + s k) 0 nc 1)) k (sl (b + s i) 0 nc 1) = spF b nc (swS s i k) := by
  funext p
  unfold upd spF swS upd
  by_cases h1 : p = k
  · rw [if_pos h1, if_pos h1]
  · rw [if_neg h1, if_neg h1]
    by_cases h2 : p = i
    · rw [if_pos h2, if_pos h2]
    · rw [if_neg h2, if_neg h2]
theorem Fit_spine0 {N n' k b0 z : Nat} {r : List Nat} (hN : b0 + k ≤ N) (hn : N ≤ n') : Fit N r n' ⟨Vs k (spF b0 z fun j => j), true⟩ ⟨Vs k (spF b0 z fun j => j), true⟩ := by
  refine Fit_ren ?_ (fun h => h) ?_
  · show Vs k _ = (Vs k _).map (renC N r)
    unfold Vs
    rw [List.map_map]
    refine List.map_congr_left fun j hj => ?_
    have := List.mem_range.1 hj
    show sl (b0 + j) 0 z 1 = Value.slice (some (renA N r ⟨b0 + j, 0, none⟩)) z 1
    unfold renA
    rw [rhoF_old (by show b0 + j < N; omega)]
  · intro c hc
    obtain ⟨j, hj, rfl⟩ := List.mem_map.1 (show c ∈ (List.range k).map _ from hc)
    have := List.mem_range.1 hj
    show b0 + j < n'
    omega
theorem Fit_spineS {N n' k b0 z : Nat} {r : List Nat} (hN : N = b0 + k) {q : Nat} (hq : q = N + r.getD 0 0) (hn : N < n') :
    Fit N r n' ⟨Vs k (spF b0 z fun j => j) ++ [sl q 0 z 1], true⟩ ⟨Vs (k + 1) (spF b0 z fun j => j), true⟩ := Fit_spine hN hq hn
theorem rowsH_cut (h : List Blk) (R : Nat → Blk) (k : Nat) (L : List Blk) : rowsH h R k ++ L = h ++ ((List.range k).map R ++ L) := by unfold rowsH; rw [List.append_assoc]
theorem lit1W (z v : Value) : splice (repA [z] 1) (0 * 1) [v] = [v] := by rw [repA_one]; rfl

theorem ones64_ac {x : Nat} (hx : x < 16) (h : List Blk) : AC Tryd.prog 54 [.int .u64 x] h (.int .i64 ((cn x 4 : Nat) : Int)) h := by
  (refine AC_begin (fun _ _ => Tryd.call54 _ _) Tryd.func54 rfl Tryd.ntmps54 Tryd.results54 (fun hwf => ?_); simp only [List.length_cons, List.length_nil, Nat.reduceAdd, Nat.reduceSub, List.replicate, List.cons_append, List.nil_append])
  (refine sN0 ?_)
  refine ret_none (by first | exact .inr rfl | exact .inl rfl) ?_
  simp (maxSteps := 1000000) (disch := first | omega | rfl | decide | (simp only [List.length_cons, List.length_nil, List.length_append, LV] <;> omega)) only [go_sem, Nat.reduceAdd, Int.reduceAdd, Int.reduceSub, Int.reduceMul, Bool.not_true, Bool.not_false]
  refine congrArg (fun z : Int => some (Value.int .i64 z)) ?_
  revert hx
  revert x
  decide +kernel
theorem ones_ac {x : Nat} (hx : x < 16) (h : List Blk) : AC Tryd.prog 25 [.int .u64 x] h (.int .i64 ((cn x 4 : Nat) : Int)) h := by
  (refine AC_begin (fun _ _ => Tryd.call25 _ _) Tryd.func25 rfl Tryd.ntmps25 Tryd.results25 (fun hwf => ?_); simp only [List.length_cons, List.length_nil, Nat.reduceAdd, Nat.reduceSub, List.replicate, List.cons_append, List.nil_append])
  (refine sW0 (ones64_ac hx) ?_)
  (exact sR0)

theorem rankI_ac {m : Nat} (h0 : 256 ≤ m) (h1 : m < 512) (a : Nat → UInt8) {R C : Nat} (hR : R < 16) (hC : C < 16) (h : List Blk) :
    AC Tryd.prog 26 [.int .i64 m, .agg (Bs 16 a).toArray, .int .i64 R, .int .i64 C] h (.int .i64 (((rkS m (cn R 4) C (E0 R a) 4).r : Nat) : Int)) h := by
  have hL := cn_le R 4
  have hnc := cn_le C 4
  generalize hE : (fun q c => E0 R a q (kp C c)) = E1
  have hE1 : ∀ q, E1 q = fun c => a (kp R q * 4 + kp C c) := fun q => by rw [← hE]; rfl
  (refine AC_begin (fun _ _ => Tryd.call26 _ _) Tryd.func26 rfl Tryd.ntmps26 Tryd.results26 (fun hwf => ?_); simp only [List.length_cons, List.length_nil, Nat.reduceAdd, Nat.reduceSub, List.replicate, List.cons_append, List.nil_append])
  (refine sN (@yieldA_at 4 63) ?_)
  refine WA_forH (fun k => [(5, pt (rowsH h (Rw (cn C 4) E1) (cn R k)).length 0), (9, sl ((rowsH h (Rw (cn C 4) E1) (cn R k)).length + 1) 0 (cn R k) 1), (10, J), (11, J), (12, J), (20, J), (21, .int .i64 k), (22, J), (23, J), (24, J), (25, J), (26, J), (27, J), (28, J), (29, J), (30, J), (31, J), (32, J), (33, J), (34, J), (35, J), (36, J), (37, J), (38, J), (39, J), (40, J), (41, J), (42, J), (43, J), (44, J), (45, J), (46, J), (47, J), (48, J), (49, J), (50, J), (51, J)]) (fun k => rowsH h (Rw (cn C 4) E1) (cn R k) ++ [⟨Bs 16 a, true⟩, ⟨Vs (cn R k) (spF h.length (cn C 4) fun j => j), true⟩]) (4) ?_ ?_ ?_ <;> (try simp only [patT_cons, patT_nil, patL_cons, patL_nil, list_set_zero, list_set_succ, blk_set_zero, blk_set_succ])
  · rw [show cn R 0 = 0 from rfl, rowsH_zero]
    (exact sS0)
  · intro i hi
    have hle := cn_le R i
    have hsR := Nat.shiftRight_le R i
    have hmo := cn_mono R (j := i) 4 (by omega)
    have hwj := rowsH_wf (k := cn R i) hwf (Rw_plain (cn C 4) E1)
    have hll := rowsH_len h (Rw (cn C 4) E1) (cn R i)
    cases hb : R.testBit i
    · (refine sN (And.intro @hb (@yieldA_at 4 63)) ?_)
      rw [cn_f hb]
      (refine Drop_slots (by first | exact Nat.le_refl _ | (rw [List.length_append, rowsH_len]; omega)) ?_; focus ((try simp only [JL_same, JL_J, JL_nil, Int.reduceAdd, Nat.sub_sub, Int.natCast_add, Int.natCast_one, Int.natCast_zero, Int.cast_ofNat_Int, Nat.add_zero, Bool.false_eq_true, if_false, if_true]); (try exact JL_refl _)))
    · (refine sN (And.intro @hb (@yieldA_at 4 63)) ?_)
      have hrow : Rw (cn C 4) E1 (cn R i) = ⟨Bs (cn C 4) fun c => a (i * 4 + kp C c), true⟩ := by unfold Rw; rw [hE1, kp_cn R hR i hi hb]
      refine WA_forP (fun k => [(11, sl ((rowsH h (Rw (cn C 4) E1) (cn R i)).length + 2) 0 (cn C k) 1), (12, J), (29, J), (30, .int .i64 k), (31, J), (32, J), (33, J), (34, J), (35, J), (36, J), (37, J), (38, J), (39, J), (40, J), (41, J), (42, J), (43, J), (44, J), (45, J), (46, J)]) (fun k => [(2, ⟨Bs (cn C k) fun c => a (i * 4 + kp C c), true⟩)]) (4) ?_ ?_ ?_ <;> (try simp only [patT_cons, patT_nil, patL_cons, patL_nil, list_set_zero, list_set_succ, blk_set_zero, blk_set_succ])
      · (refine Drop_slots (by first | exact Nat.le_refl _ | (rw [List.length_append, rowsH_len]; omega)) ?_; focus ((try simp only [JL_same, JL_J, JL_nil, Int.reduceAdd, Nat.sub_sub, Int.natCast_add, Int.natCast_one, Int.natCast_zero, Int.cast_ofNat_Int, Nat.add_zero, Bool.false_eq_true, if_false, if_true, show cn C 0 = 0 from rfl]); (try exact JL_refl _)))
      · intro j hj
        have hlc := cn_le C j
        have hsC := Nat.shiftRight_le C j
        cases hc : C.testBit j
        · (refine sN (And.intro @hc (@yieldA_at 4 63)) ?_)
          rw [cn_f hc]
          (refine Drop_slots (by first | exact Nat.le_refl _ | (rw [List.length_append, rowsH_len]; omega)) ?_; focus ((try simp only [JL_same, JL_J, JL_nil, Int.reduceAdd, Nat.sub_sub, Int.natCast_add, Int.natCast_one, Int.natCast_zero, Int.cast_ofNat_Int, Nat.add_zero, Bool.false_eq_true, if_false, if_true]); (try exact JL_refl _)))
        · have hsn : Bs (cn C j) (fun c => a (i * 4 + kp C c)) ++ [B (a (i * 4 + j))] = Bs (cn C (j + 1)) fun c => a (i * 4 + kp C c) := by
            rw [cn_t hc]; unfold Bs; rw [List.range_succ, List.map_append]; congr 1
            show [B (a (i * 4 + j))] = [B (a (i * 4 + kp C (cn C j)))]
            rw [kp_cn C hC j hj hc]
          (refine sN (And.intro @hc (And.intro @lit1W (And.intro @sub1 (And.intro @hsn (@yieldA_at 4 63))))) ?_)
          (refine Drop_gc [0, 1, 4] (by first | omega | first | assumption | omega | (simp only [List.length_append, List.length_cons, List.length_nil, List.length_replicate]; omega)) (by assumption) (by decide) ?_ ?_; (focus (repeat (first | exact trivial | (refine And.intro ⟨_, rfl, ?_⟩ ?_; (focus first | (refine Fit_plain ?_; simp only [go_sem, List.all_append, List.all_cons, List.all_nil, Bool.and_self]; done) | exact Fit_nil rfl | exact Fit_dead | (refine Fit_eq ?_ ?_; (focus simp only [go_sem, List.all_append, List.all_cons, List.all_nil, Bool.and_self]); (focus (first | rfl | (simp only [Int.natCast_add, Int.natCast_one, Int.natCast_zero, Int.cast_ofNat_Int, Nat.add_zero, cn_t hc]; done) | (simp only [Int.natCast_add, Int.natCast_one, Int.natCast_zero, Int.cast_ofNat_Int, Nat.add_zero, cn_t hc]; rfl)))) | (refine Fit_spine0 ?_ ?_; (focus omega); (focus (simp only [List.length_append, List.length_cons, List.length_nil]; omega))) | (refine Fit_spineS ?_ ?_ ?_; (focus first | omega | assumption); (focus rfl); (focus (simp only [List.length_append, List.length_cons, List.length_nil]; omega)))))))); (focus (repeat (first | exact JR_nil | refine JR_J ?_ | (refine JR_plain ?_ ?_; (focus first | rfl | (refine plain_agg ?_; simp only [go_sem, List.all_append, List.all_cons, List.all_nil, Bool.and_self]; done))) | ((first | refine JR_pt ?_ ?_ ?_ | refine JR_sl ?_ ?_ ?_); (focus first | (rw [rhoF_new0]; rfl) | (rw [rhoF_new]; rfl) | (rw [rhoF_old]; first | assumption | omega)); (focus first | assumption | omega | (simp only [List.length_append, List.length_cons, List.length_nil, List.length_replicate]; omega))) | (refine JR_plain' ?_ ?_ ?_; (focus first | rfl | (refine plain_agg ?_; simp only [go_sem, List.all_append, List.all_cons, List.all_nil, Bool.and_self]; done)); (focus (first | rfl | (simp only [Int.natCast_add, Int.natCast_one, Int.natCast_zero, Int.cast_ofNat_Int, Nat.add_zero, cn_t hc]; done) | (simp only [Int.natCast_add, Int.natCast_one, Int.natCast_zero, Int.cast_ofNat_Int, Nat.add_zero, cn_t hc]; rfl)))) | (refine JR_sl' ?_ ?_ ?_ ?_; (focus first | (rw [rhoF_new0]; rfl) | (rw [rhoF_new]; rfl) | (rw [rhoF_old]; first | assumption | omega)); (focus first | assumption | omega | (simp only [List.length_append, List.length_cons, List.length_nil, List.length_replicate]; omega)); (focus first | rfl | omega | (first | rfl | (simp only [Int.natCast_add, Int.natCast_one, Int.natCast_zero, Int.cast_ofNat_Int, Nat.add_zero, cn_t hc]; done) | (simp only [Int.natCast_add, Int.natCast_one, Int.natCast_zero, Int.cast_ofNat_Int, Nat.add_zero, cn_t hc]; rfl))))))))
      · (refine sN (And.intro @lit1W (And.intro @sub1 (@yieldA_at 4 63))) ?_)
        rw [cn_t hb, rowsH_app, rowsH_lenS, hrow]
        simp only [Nat.add_assoc, Nat.reduceAdd]
        (refine Drop_gc [2, 0, 4] (by first | omega | first | assumption | omega | (simp only [List.length_append, List.length_cons, List.length_nil, List.length_replicate]; omega)) (by assumption) (by decide) ?_ ?_; (focus (repeat (first | exact trivial | (refine And.intro ⟨_, rfl, ?_⟩ ?_; (focus first | (refine Fit_plain ?_; simp only [go_sem, List.all_append, List.all_cons, List.all_nil, Bool.and_self]; done) | exact Fit_nil rfl | exact Fit_dead | (refine Fit_eq ?_ ?_; (focus simp only [go_sem, List.all_append, List.all_cons, List.all_nil, Bool.and_self]); (focus (first | rfl | (simp only [Int.natCast_add, Int.natCast_one, Int.natCast_zero, Int.cast_ofNat_Int, Nat.add_zero]; done) | (simp only [Int.natCast_add, Int.natCast_one, Int.natCast_zero, Int.cast_ofNat_Int, Nat.add_zero]; rfl)))) | (refine Fit_spine0 ?_ ?_; (focus omega); (focus (simp only [List.length_append, List.length_cons, List.length_nil]; omega))) | (refine Fit_spineS ?_ ?_ ?_; (focus first | omega | assumption); (focus rfl); (focus (simp only [List.length_append, List.length_cons, List.length_nil]; omega)))))))); (focus (repeat (first | exact JR_nil | refine JR_J ?_ | (refine JR_plain ?_ ?_; (focus first | rfl | (refine plain_agg ?_; simp only [go_sem, List.all_append, List.all_cons, List.all_nil, Bool.and_self]; done))) | ((first | refine JR_pt ?_ ?_ ?_ | refine JR_sl ?_ ?_ ?_); (focus first | (rw [rhoF_new0]; rfl) | (rw [rhoF_new]; rfl) | (rw [rhoF_old]; first | assumption | omega)); (focus first | assumption | omega | (simp only [List.length_append, List.length_cons, List.length_nil, List.length_replicate]; omega))) | (refine JR_plain' ?_ ?_ ?_; (focus first | rfl | (refine plain_agg ?_; simp only [go_sem, List.all_append, List.all_cons, List.all_nil, Bool.and_self]; done)); (focus (first | rfl | (simp only [Int.natCast_add, Int.natCast_one, Int.natCast_zero, Int.cast_ofNat_Int, Nat.add_zero]; done) | (simp only [Int.natCast_add, Int.natCast_one, Int.natCast_zero, Int.cast_ofNat_Int, Nat.add_zero]; rfl)))) | (refine JR_sl' ?_ ?_ ?_ ?_; (focus first | (rw [rhoF_new0]; rfl) | (rw [rhoF_new]; rfl) | (rw [rhoF_old]; first | assumption | omega)); (focus first | assumption | omega | (simp only [List.length_append, List.length_cons, List.length_nil, List.length_replicate]; omega)); (focus first | rfl | omega | (first | rfl | (simp only [Int.natCast_add, Int.natCast_one, Int.natCast_zero, Int.cast_ofNat_Int, Nat.add_zero]; done) | (simp only [Int.natCast_add, Int.natCast_one, Int.natCast_zero, Int.cast_ofNat_Int, Nat.add_zero]; rfl))))))))
  · (refine sW (@yieldA_at 4 63) (ones_ac hC) ?_)
    refine WA_forH (fun k => [(5, pt (h.length + cn R 4) 0), (9, sl (h.length + (cn R 4 + 1)) 0 (cn R 4) 1), (13, .int .i64 (((rkI m (cn R 4) E1 k).r : Nat) : Int)), (14, J), (15, J), (16, J), (17, J), (18, J), (19, J), (55, .int .i64 k), (56, J), (57, J), (58, J), (59, J), (60, J), (61, J), (62, J), (63, J), (64, J), (65, J), (66, J), (67, J), (68, J), (69, J), (70, J), (71, J), (72, J), (73, J), (74, J), (75, J), (76, J), (77, J), (78, J), (79, J), (80, J), (81, J), (82, J), (83, J), (84, J), (85, J), (86, J), (87, J), (88, J), (89, J), (90, J), (91, J), (92, J), (93, J), (94, J), (95, J), (96, J), (97, J), (98, J), (99, J), (100, J), (101, J), (102, J), (103, J), (104, J), (105, J), (106, J), (107, J), (108, J), (109, J), (110, J), (111, J), (112, J), (113, J), (114, J), (115, J), (116, J), (117, J), (118, J), (119, J), (120, J), (121, J), (122, J), (123, J), (124, J), (125, J), (126, J), (127, J), (128, J), (129, J), (130, J), (131, J), (132, J), (133, J), (134, J), (135, J), (136, J), (137, J), (138, J), (139, J), (140, J), (141, J), (142, J), (143, J), (144, J), (145, J), (146, J), (147, J), (148, J), (149, J), (150, J)]) (fun k => rowsH h (Rw (cn C 4) (rkI m (cn R 4) E1 k).E) (cn R 4) ++ [⟨Bs 16 a, true⟩, ⟨Vs (cn R 4) (spF h.length (cn C 4) (rkI m (cn R 4) E1 k).s), true⟩]) (cn C 4) ?_ ?_ ?_ <;> (try simp only [patT_cons, patT_nil, patL_cons, patL_nil, list_set_zero, list_set_succ, blk_set_zero, blk_set_succ])
    · rw [show rkI m (cn R 4) E1 0 = ⟨E1, fun j => j, 0⟩ from rfl]
      (refine Drop_slots (by first | exact Nat.le_refl _ | (rw [List.length_append, rowsH_len]; omega)) ?_; focus ((try simp only [JL_same, JL_J, JL_nil, Int.reduceAdd, Nat.sub_sub, Int.natCast_add, Int.natCast_one, Int.natCast_zero, Int.cast_ofNat_Int, Nat.add_zero, Bool.false_eq_true, if_false, if_true, rowsH_len, Nat.add_assoc]); (try exact JL_refl _)))
    · intro j hj
      obtain ⟨hP, hr⟩ := rkI_inv m (cn R 4) E1 j
      have hst : rkI m (cn R 4) E1 (j + 1) = gstep m (cn R 4) j (rkI m (cn R 4) E1 j) := rfl
      rw [hst]
      clear hst
      generalize rkI m (cn R 4) E1 j = S at *
      obtain ⟨E, s, r⟩ := S
      simp only [] at hP hr ⊢
      have hgl := gp_le (E := E) (s := s) (j := j) hr
      (refine sN (@yieldA_at 4 63) ?_)
      refine WA_forP (fun k => [(15, .int .i64 ((r + k : Nat) : Int)), (59, J), (60, J), (61, J), (62, J), (63, J), (64, J), (65, J), (66, J), (67, J), (68, J), (69, J), (70, J), (71, J), (72, J), (73, J), (74, J)]) (fun k => []) (gpC (cn R 4) E s r j) ?_ ?_ ?_ <;> (try simp only [patT_cons, patT_nil, patL_cons, patL_nil, list_set_zero, list_set_succ, blk_set_zero, blk_set_succ])
      · (refine Drop_slots (by first | exact Nat.le_refl _ | (rw [List.length_append, rowsH_len]; omega)) ?_; focus ((try simp only [JL_same, JL_J, JL_nil, Int.reduceAdd, Nat.sub_sub, Int.natCast_add, Int.natCast_one, Int.natCast_zero, Int.cast_ofNat_Int, Nat.add_zero, Bool.false_eq_true, if_false, if_true]); (try exact JL_refl _)))
      · intro i hi
        obtain ⟨g1, g2⟩ := gp_go hi
        have hs := hP.lt (r + i) g1
        (refine sN (And.intro (decide_eq_true g1) (And.intro @look_tail1 (And.intro @spF_at (And.intro @row_look (And.intro @g2 (@yieldA_at 4 63)))))) ?_)
        (refine Drop_slots (by first | exact Nat.le_refl _ | (rw [List.length_append, rowsH_len]; omega)) ?_; focus ((try simp only [JL_same, JL_J, JL_nil, Int.reduceAdd, Nat.sub_sub, Int.natCast_add, Int.natCast_one, Int.natCast_zero, Int.cast_ofNat_Int, Nat.add_zero, Bool.false_eq_true, if_false, if_true, Nat.add_assoc]); (try exact JL_refl _)))
      · by_cases hpv : r + gpC (cn R 4) E s r j = cn R 4
        · have hg := gstep_no (m := m) (L := cn R 4) (j := j) (S := ⟨E, s, r⟩) hpv
          rw [hg]
          (refine sN (And.intro @hpv (And.intro (show decide (cn R 4 < cn R 4) = false from decide_eq_false (Nat.lt_irrefl _)) (@yieldA_at 4 63))) ?_)
          (refine Drop_slots (by first | exact Nat.le_refl _ | (rw [List.length_append, rowsH_len]; omega)) ?_; focus ((try simp only [JL_same, JL_J, JL_nil, Int.reduceAdd, Nat.sub_sub, Int.natCast_add, Int.natCast_one, Int.natCast_zero, Int.cast_ofNat_Int, Nat.add_zero, Bool.false_eq_true, if_false, if_true]); (try exact JL_refl _)))
        · have hg := gstep_yes (m := m) (L := cn R 4) (j := j) (S := ⟨E, s, r⟩) hpv
          simp only [] at hg
          have hge := gp_end (E := E) (s := s) (j := j) hr hL hpv
          rw [hg]
          simp only []
          clear hg
          have hpl : r + gpC (cn R 4) E s r j < cn R 4 := by omega
          have hrp : r ≤ r + gpC (cn R 4) E s r j := Nat.le_add_right _ _
          generalize r + gpC (cn R 4) E s r j = p at *
          have hs := hP.lt p hpl
          have hr4 : r < cn R 4 := by omega
          have hsr4 := hP.lt r hr4
          have hpb : (p == cn R 4) = false := by simpa using hpv
          have hPs := Pm_sw hP hpl hr4
          (repeat (first | ((first | (refine And.intro ?_ ?_; focus exact PLA) | ((first | with_reducible apply callB_i | with_reducible apply callK_intro | with_reducible apply callQ_i); (focus (first | assumption | (with_reducible apply invI_ac h0 h1 <;> (first | assumption | rfl | (simp (disch := omega) only [go_sem]; first | done | rfl) | omega | decide | (simp; done))))); (try exact WP_au)) | refine WA_seq (WA_region ?_) | refine WA_region ?_ | refine WA_exit ?_); try simp (maxSteps := 1000000) (disch := first | omega | rfl | decide | (simp only [List.length_cons, List.length_nil, List.length_append, LV] <;> omega)) only [go_sem, Nat.reduceAdd, Int.reduceAdd, Int.reduceSub, Int.reduceMul, Bool.not_true, Bool.not_false, decide_eq_true hpl, look_tail1, set_tail1, spF_at, row_look, hge, hpb, spF_sw, swS_at, yieldA_at 4 63]) | (refine (WA_rb (id := 23) [13, 15] (SubM.refl _) mixedOk ?_); simp only [List.size_toArray, List.length_cons, List.length_nil]; (repeat (first | ((first | (refine And.intro ?_ ?_; focus exact PLA) | refine RB_take false [0, 1, 2, 3, 4, 5, 6, 8, 9, 10] 6 (by rfl) (by kernel_rfl) (by decide) (by decide +kernel) ?_ | refine RB_take true [7, 11] 4 (by rfl) (by kernel_rfl) (by decide) (by decide +kernel) ?_ | refine RB_take false [12] 3 (by rfl) (by kernel_rfl) (by decide) (by decide +kernel) ?_ | refine RB_exec 13 _ (by rfl) (by decide +kernel) (by decide +kernel) ?_ | refine RB_take false [14] 1 (by rfl) (by kernel_rfl) (by decide) (by decide +kernel) ?_ | refine RB_exec 15 _ (by rfl) (by decide +kernel) (by decide +kernel) ?_ | refine RB_done (by decide +kernel) ?_); try simp (maxSteps := 1000000) (disch := first | omega | rfl | decide | (simp only [List.length_cons, List.length_nil, List.length_append, LV] <;> omega)) only [go_sem, Nat.reduceAdd, Int.reduceAdd, Int.reduceSub, Int.reduceMul, Bool.not_true, Bool.not_false, decide_eq_true hpl, look_tail1, set_tail1, spF_at, row_look, hge, hpb, spF_sw, swS_at, yieldA_at 4 63])))) | refine WA_seq ?_ | refine WA_block ?_ | (refine WA_skip ?_; try simp only [go_sem]) | (refine WA_ret ?_; try simp only [go_sem]) | refine WA_ct rfl ?_ | refine WA_cf rfl ?_))
          have hsr : s p = swS s p r r := (swS_at s p r).symm
          generalize inv m (E (s p) j) = v
          generalize swS s p r = q at *
          refine WA_forH (fun k => [(17, .int .i64 ((r + 1 + k : Nat) : Int)), (18, J), (19, J), (104, J), (105, J), (106, J), (107, J), (108, J), (109, J), (110, J), (111, J), (112, J), (113, J), (114, J), (115, J), (116, J), (117, J), (118, J), (119, J), (120, J), (121, J), (122, J), (123, J), (124, J), (125, J), (126, J), (127, J), (128, J), (129, J), (130, J), (131, J), (132, J), (133, J), (134, J), (135, J), (136, J), (137, J), (138, J), (139, J), (140, J), (141, J), (142, J), (143, J), (144, J), (145, J), (146, J), (147, J)]) (fun k => rowsH h (Rw (cn C 4) (elE m q r j v E k)) (cn R 4) ++ [⟨Bs 16 a, true⟩, ⟨Vs (cn R 4) (spF h.length (cn C 4) q), true⟩]) (cn R 4 - (r + 1)) ?_ ?_ ?_ <;> (try simp only [patT_cons, patT_nil, patL_cons, patL_nil, list_set_zero, list_set_succ, blk_set_zero, blk_set_succ])
          · (refine Drop_slots (by first | exact Nat.le_refl _ | (rw [List.length_append, rowsH_len]; omega)) ?_; focus ((try simp only [JL_same, JL_J, JL_nil, Int.reduceAdd, Nat.sub_sub, Int.natCast_add, Int.natCast_one, Int.natCast_zero, Int.cast_ofNat_Int, Nat.add_zero, Bool.false_eq_true, if_false, if_true]); (try exact JL_refl _)))
          · intro t ht
            have hn : r + 1 + t < cn R 4 := by omega
            have hq := hPs.lt _ hn
            have hqr := hPs.lt r hr4
            have hne : q r ≠ q (r + 1 + t) := fun e => absurd (hPs.inj r _ hr4 hn e) (by omega)
            have hel : elE m q r j v E (t + 1) = upd (elE m q r j v E t) (q (r + 1 + t)) (rowN m (tm m (elE m q r j v E t (q (r + 1 + t)) j) v) (elE m q r j v E t (q (r + 1 + t))) (elE m q r j v E t (q r))) := rfl
            rw [hel]
            clear hel
            generalize elE m q r j v E t = F
            generalize hqq : q (r + 1 + t) = z at *
            (refine sW (And.intro (decide_eq_true hn) (And.intro @look_tail1 (And.intro @spF_at (And.intro @row_look (And.intro @hqq (@yieldA_at 4 63)))))) (tmI_ac h0 h1) ?_)
            generalize tm m (F z j) v = f
            refine WA_forH (fun k => [(19, J), (125, .int .i64 k), (126, J), (127, J), (128, J), (129, J), (130, J), (131, J), (132, J), (133, J), (134, J), (135, J), (136, J), (137, J), (138, J), (139, J), (140, J), (141, J), (142, J), (143, J), (144, J), (145, J), (146, J), (147, J)]) (fun k => rowsH h (Rw (cn C 4) (upd F z (pre k (rowN m f (F z) (F (q r))) (F z)))) (cn R 4) ++ [⟨Bs 16 a, true⟩, ⟨Vs (cn R 4) (spF h.length (cn C 4) q), true⟩]) (cn C 4) ?_ ?_ ?_ <;> (try simp only [patT_cons, patT_nil, patL_cons, patL_nil, list_set_zero, list_set_succ, blk_set_zero, blk_set_succ])
            · rw [pre_zero, upd_id]
              (refine Drop_slots (by first | exact Nat.le_refl _ | (rw [List.length_append, rowsH_len]; omega)) ?_; focus ((try simp only [JL_same, JL_J, JL_nil, Int.reduceAdd, Nat.sub_sub, Int.natCast_add, Int.natCast_one, Int.natCast_zero, Int.cast_ofNat_Int, Nat.add_zero, Bool.false_eq_true, if_false, if_true]); (try exact JL_refl _)))
            · intro c hc
              have e1 : upd F z (pre c (rowN m f (F z) (F (q r))) (F z)) z c = F z c := by unfold upd; rw [if_pos rfl]; exact pre_self c _ _
              have e2 : upd F z (pre c (rowN m f (F z) (F (q r))) (F z)) (q r) c = F (q r) c := by unfold upd; rw [if_neg hne]
              have e3 : upd (upd F z (pre c (rowN m f (F z) (F (q r))) (F z))) z (upd (upd F z (pre c (rowN m f (F z) (F (q r))) (F z)) z) c (F z c ^^^ tm m f (F (q r) c))) = upd F z (pre (c + 1) (rowN m f (F z) (F (q r))) (F z)) := upd2_pre (E := F) (q := z) (k := c) (g := rowN m f (F z) (F (q r))) (x := F z)
              (repeat (first | ((first | (refine And.intro ?_ ?_; focus exact PLA) | ((first | with_reducible apply callB_i | with_reducible apply callK_intro | with_reducible apply callQ_i); (focus (first | assumption | (with_reducible apply tmI_ac h0 h1 <;> (first | assumption | rfl | (simp (disch := omega) only [go_sem]; first | done | rfl) | omega | decide | (simp; done))))); (try exact WP_au)) | refine WA_seq (WA_region ?_) | refine WA_region ?_ | refine WA_exit ?_); try simp (maxSteps := 1000000) (disch := first | omega | rfl | decide | (simp only [List.length_cons, List.length_nil, List.length_append, LV] <;> omega)) only [go_sem, Nat.reduceAdd, Int.reduceAdd, Int.reduceSub, Int.reduceMul, Bool.not_true, Bool.not_false, look_tail1, spF_at, row_look, rows_set, Rw_upd, hqq, e1, e2, e3, yieldA_at 4 63]) | (refine (WA_rb (id := 32) [19] (SubM.refl _) mixedOk ?_); simp only [List.size_toArray, List.length_cons, List.length_nil]; (repeat (first | ((first | (refine And.intro ?_ ?_; focus exact PLA) | ((first | with_reducible apply callB_i | with_reducible apply callK_intro | with_reducible apply callQ_i); (focus (first | assumption | (with_reducible apply tmI_ac h0 h1 <;> (first | assumption | rfl | (simp (disch := omega) only [go_sem]; first | done | rfl) | omega | decide | (simp; done))))); (try exact WP_au)) | refine RB_take false [0, 1, 2, 4, 7, 8, 9, 10, 11, 13] 10 (by rfl) (by kernel_rfl) (by decide) (by decide +kernel) ?_ | refine RB_take true [3, 12] 8 (by rfl) (by kernel_rfl) (by decide) (by decide +kernel) ?_ | refine RB_take false [5, 14] 6 (by rfl) (by kernel_rfl) (by decide) (by decide +kernel) ?_ | refine RB_take true [6, 15, 16] 3 (by rfl) (by kernel_rfl) (by decide) (by decide +kernel) ?_ | refine RB_take false [17, 18] 1 (by rfl) (by kernel_rfl) (by decide) (by decide +kernel) ?_ | refine RB_exec 19 _ (by rfl) (by decide +kernel) (by decide +kernel) ?_ | refine RB_done (by decide +kernel) ?_); try simp (maxSteps := 1000000) (disch := first | omega | rfl | decide | (simp only [List.length_cons, List.length_nil, List.length_append, LV] <;> omega)) only [go_sem, Nat.reduceAdd, Int.reduceAdd, Int.reduceSub, Int.reduceMul, Bool.not_true, Bool.not_false, look_tail1, spF_at, row_look, rows_set, Rw_upd, hqq, e1, e2, e3, yieldA_at 4 63])))) | refine WA_seq ?_ | refine WA_block ?_ | (refine WA_skip ?_; try simp only [go_sem]) | (refine WA_ret ?_; try simp only [go_sem]) | refine WA_ct rfl ?_ | refine WA_cf rfl ?_))
              (refine Drop_slots (by first | exact Nat.le_refl _ | (rw [List.length_append, rowsH_len]; omega)) ?_; focus ((try simp only [JL_same, JL_J, JL_nil, Int.reduceAdd, Nat.sub_sub, Int.natCast_add, Int.natCast_one, Int.natCast_zero, Int.cast_ofNat_Int, Nat.add_zero, Bool.false_eq_true, if_false, if_true]); (try exact JL_refl _)))
            · rw [Rw_pre]
              (refine sN (@yieldA_at 4 63) ?_)
              (refine Drop_slots (by first | exact Nat.le_refl _ | (rw [List.length_append, rowsH_len]; omega)) ?_; focus ((try simp only [JL_same, JL_J, JL_nil, Int.reduceAdd, Nat.sub_sub, Int.natCast_add, Int.natCast_one, Int.natCast_zero, Int.cast_ofNat_Int, Nat.add_zero, Bool.false_eq_true, if_false, if_true, Nat.add_assoc]); (try exact JL_refl _)))
          · have hne : decide (r + 1 + (cn R 4 - (r + 1)) < cn R 4) = false := decide_eq_false (by omega)
            (refine sN (And.intro @hne (@yieldA_at 4 63)) ?_)
            (refine Drop_slots (by first | exact Nat.le_refl _ | (rw [List.length_append, rowsH_len]; omega)) ?_; focus ((try simp only [JL_same, JL_J, JL_nil, Int.reduceAdd, Nat.sub_sub, Int.natCast_add, Int.natCast_one, Int.natCast_zero, Int.cast_ofNat_Int, Nat.add_zero, Bool.false_eq_true, if_false, if_true]); (try exact JL_refl _)))
    · have hfin : (rkI m (cn R 4) E1 (cn C 4)).r = (rkS m (cn R 4) C (E0 R a) 4).r := by
        rw [← hE, rk_eq hC (E0 R a) 4 (by omega)]; rfl
      (refine sN (@yieldA_at 4 63) ?_)
      rw [rowsH_cut]
      (exact sR @hfin)

end Go.Proofs.YtalbdgkbinndlaaDoor
/- BranchNumber. -/
namespace Go.Proofs.YtalbdgkbinndlaaDoor
set_option linter.unusedSimpArgs false
set_option linter.unusedVariables false
set_option maxRecDepth 20000
set_option maxHeartbeats 1000000
open Go.Abs

/-- The rank of a part of a matrix. -/
def rkN (m : Nat) (a : Nat → UInt8) (R C : Nat) : Nat := (rkS m (cn R 4) C (E0 R a) 4).r
def brZ (i : Nat) : Nat := cn (i / 16 + 1) 4 + 4 - cn (i % 16) 4
def brB (m : Nat) (a : Nat → UInt8) (i : Nat) : Bool := decide (rkN m a (i % 16) (i / 16 + 1) < cn (i / 16 + 1) 4)
/-- The least number so far. -/
def brS (m : Nat) (a : Nat → UInt8) : Nat → Nat
  | 0 => 5
  | i + 1 => if brZ i < brS m a i ∧ brB m a i = true then brZ i else brS m a i
theorem brS_le (m : Nat) (a : Nat → UInt8) : ∀ i, brS m a i ≤ 5
  | 0 => Nat.le_refl 5
  | i + 1 => by have := brS_le m a i; unfold brS; split <;> omega
theorem brS_yes {m : Nat} {a : Nat → UInt8} {i : Nat} (h1 : brZ i < brS m a i) (h2 : brB m a i = true) : brS m a (i + 1) = brZ i := by rw [brS, if_pos ⟨h1, h2⟩]
theorem brS_no1 {m : Nat} {a : Nat → UInt8} {i : Nat} (h1 : ¬ brZ i < brS m a i) : brS m a (i + 1) = brS m a i := by rw [brS, if_neg fun h => h1 h.1]
theorem brS_no2 {m : Nat} {a : Nat → UInt8} {i : Nat} (h2 : brB m a i = false) : brS m a (i + 1) = brS m a i := by rw [brS, if_neg fun h => by rw [h2] at h; cases h.2]
def brI (m : Nat) (a : Nat → UInt8) (i : Nat) : Nat := if i = 0 then 8 else brS m a i
theorem rkN_empty (m : Nat) (a : Nat → UInt8) (C : Nat) : rkN m a 0 C = 0 := by
  have := (rkS_inv m (cn 0 4) C (E0 0 a) 4).2
  have h : cn 0 4 = 0 := rfl
  unfold rkN
  omega
theorem brI_yes {m : Nat} {a : Nat → UInt8} {i : Nat} (h2 : brB m a i = true) : (if ((brZ i : Nat) : Int) < ((brI m a i : Nat) : Int) then ((brZ i : Nat) : Int) else ((brI m a i : Nat) : Int)) = ((brI m a (i + 1) : Nat) : Int) := by
  unfold brI
  rw [if_neg (Nat.succ_ne_zero i)]
  by_cases h0 : i = 0
  · subst h0
    rw [if_pos rfl, if_pos (by decide +kernel), brS_no1 (show ¬ brZ 0 < 5 from by decide +kernel)]
    show ((brZ 0 : Nat) : Int) = ((5 : Nat) : Int)
    decide +kernel
  · rw [if_neg h0]
    by_cases h1 : brZ i < brS m a i
    · rw [if_pos (by omega), brS_yes h1 h2]
    · rw [if_neg (by omega), brS_no1 h1]
theorem brI_fin (m : Nat) (a : Nat → UInt8) : brI m a 240 = brS m a 240 := if_neg (by decide)
theorem brI_no {m : Nat} {a : Nat → UInt8} {i : Nat} (h2 : brB m a i = false) : brI m a (i + 1) = brI m a i := by
  unfold brI
  rw [if_neg (Nat.succ_ne_zero i), brS_no2 h2]
  by_cases h0 : i = 0
  · subst h0
    unfold brB at h2
    rw [rkN_empty] at h2
    exact absurd h2 (by decide)
  · rw [if_neg h0]
theorem pop_cn : ∀ x, x < 16 → popP x (blen x) = cn x 4 := by decide +kernel
theorem idx_div {i k : Nat} (hk : k < 16) : (i * 16 + k) / 16 = i ∧ (i * 16 + k) % 16 = k := ⟨by omega, by omega⟩

theorem onesN_ac {x : Nat} (hx : x < 16) (h : List Blk) : AC Tryd.prog 58 [.int .i64 x] h (.int .i64 ((cn x 4 : Nat) : Int)) h := by
  have hbl : blen x ≤ 4 := blen_lt (by omega)
  (refine AC_begin (fun _ _ => Tryd.call58 _ _) Tryd.func58 rfl Tryd.ntmps58 Tryd.results58 (fun hwf => ?_); simp only [List.length_cons, List.length_nil, Nat.reduceAdd, Nat.reduceSub, List.replicate, List.cons_append, List.nil_append])
  (refine sN0 ?_)
  refine WA_forH (fun k => [(0, .int .i64 ((x >>> k : Nat))), (3, .int .i64 ((popP x k : Nat) : Int)), (4, J), (5, J), (6, J), (7, J), (8, J), (9, J), (10, J), (11, J)]) (fun k => h) (blen x) ?_ ?_ ?_ <;> (try simp only [patT_cons, patT_nil, patL_cons, patL_nil, list_set_zero, list_set_succ, blk_set_zero, blk_set_succ])
  · (refine Drop_slots (by first | exact Nat.le_refl _ | simp) ?_; focus ((try simp only [JL_same, JL_J, JL_nil, Int.reduceAdd, Nat.sub_sub, Int.natCast_add, Int.natCast_one, Int.natCast_zero, Int.cast_ofNat_Int, Nat.add_zero, Bool.false_eq_true, if_false, if_true, Nat.shiftRight_zero, popP]); (try exact JL_refl _)))
  · intro k hk
    have hp := blen_pos hk
    have hs := Nat.shiftRight_le x k
    have hs' := Nat.shiftRight_le x (k + 1)
    have hw := wrap_N (n := x >>> (k + 1)) (by omega)
    have hpl := popP_le x k
    have hm := Nat.mod_lt (x >>> k) (show 0 < 2 by omega)
    (refine sN @hw ?_)
    (refine Drop_slots (by first | exact Nat.le_refl _ | simp) ?_; focus ((try simp only [JL_same, JL_J, JL_nil, Int.reduceAdd, Nat.sub_sub, Int.natCast_add, Int.natCast_one, Int.natCast_zero, Int.cast_ofNat_Int, Nat.add_zero, Bool.false_eq_true, if_false, if_true, popP]); (try exact JL_refl _)))
  · (refine sN @blen_done ?_)
    (exact sR (pop_cn x hx))

theorem branchS_ac {m : Nat} (h0 : 256 ≤ m) (h1 : m < 512) (a : Nat → UInt8) (h : List Blk) : AC Tryd.prog 28 [.int .i64 m, .agg (Bs 16 a).toArray] h (.int .i64 ((brS m a 240 : Nat) : Int)) h := by
  (refine AC_begin (fun _ _ => Tryd.call28 _ _) Tryd.func28 rfl Tryd.ntmps28 Tryd.results28 (fun hwf => ?_); simp only [List.length_cons, List.length_nil, Nat.reduceAdd, Nat.reduceSub, List.replicate, List.cons_append, List.nil_append])
  (refine sN (@yieldA_at 3 26) ?_)
  refine WA_forP (fun k => [(5, .int .i64 ((brS m a (k * 16) : Nat) : Int)), (6, .int .i64 ((k + 1 : Nat) : Int)), (7, J), (8, J), (9, J), (10, J), (11, J), (12, J), (13, J), (14, J), (15, J), (16, J), (17, J), (18, J), (19, J), (20, J), (21, J), (22, J), (23, J), (24, J), (25, J), (26, J), (27, J), (28, J), (29, J), (30, J), (31, J), (32, J), (33, J), (34, J), (35, J), (36, J)]) (fun k => []) (15) ?_ ?_ ?_ <;> (try simp only [patT_cons, patT_nil, patL_cons, patL_nil, list_set_zero, list_set_succ, blk_set_zero, blk_set_succ])
  · (exact sS (show brS m a (0 * 16) = 5 from rfl))
  · intro i hi
    (refine sN (@yieldA_at 3 26) ?_)
    refine WA_forP (fun k => [(5, .int .i64 ((brS m a (i * 16 + k) : Nat) : Int)), (7, .int .i64 k), (8, J), (13, J), (14, J), (15, J), (16, J), (17, J), (18, J), (19, J), (20, J), (21, J), (22, J), (23, J), (24, J), (25, J), (26, J), (27, J), (28, J), (29, J), (30, J), (31, J), (32, J), (33, J), (34, J), (35, J), (36, J)]) (fun k => []) (16) ?_ ?_ ?_ <;> (try simp only [patT_cons, patT_nil, patL_cons, patL_nil, list_set_zero, list_set_succ, blk_set_zero, blk_set_succ])
    · (exact sS0)
    · intro k hk
      obtain ⟨e1, e2⟩ := idx_div (i := i) hk
      have hle := brS_le m a (i * 16 + k)
      have hc1 := cn_le (i + 1) 4
      have hc2 := cn_le k 4
      have hz : brZ (i * 16 + k) = cn (i + 1) 4 + 4 - cn k 4 := by unfold brZ; rw [e1, e2]
      have hB : brB m a (i * 16 + k) = decide (rkN m a k (i + 1) < cn (i + 1) 4) := by unfold brB; rw [e1, e2]
      have hC : i + 1 < 16 := by omega
      by_cases hs : cn (i + 1) 4 + 4 - cn k 4 < brS m a (i * 16 + k)
      · cases hb : decide (rkN m a k (i + 1) < cn (i + 1) 4)
        · (refine sW (And.intro (decide_eq_true hs) (And.intro (show (rkS m (cn k 4) (i + 1) (E0 k a) 4).r = rkN m a k (i + 1) from rfl) (And.intro @hb (@yieldA_at 3 26)))) (And.intro (onesN_ac hC) (And.intro (onesN_ac hk) (rankS_ac h0 h1 a hk hC))) ?_)
          (refine Drop_slots (by first | exact Nat.le_refl _ | simp) ?_; focus ((try simp only [JL_same, JL_J, JL_nil, Int.reduceAdd, Nat.sub_sub, Int.natCast_add, Int.natCast_one, Int.natCast_zero, Int.cast_ofNat_Int, Nat.add_zero, Bool.false_eq_true, if_false, if_true, brS_no2 (hB.trans hb), ← Nat.add_assoc]); (try exact JL_refl _)))
        · (refine sW (And.intro (decide_eq_true hs) (And.intro (show (rkS m (cn k 4) (i + 1) (E0 k a) 4).r = rkN m a k (i + 1) from rfl) (And.intro @hb (@yieldA_at 3 26)))) (And.intro (onesN_ac hC) (And.intro (onesN_ac hk) (rankS_ac h0 h1 a hk hC))) ?_)
          (refine Drop_slots (by first | exact Nat.le_refl _ | simp) ?_; focus ((try simp only [JL_same, JL_J, JL_nil, Int.reduceAdd, Nat.sub_sub, Int.natCast_add, Int.natCast_one, Int.natCast_zero, Int.cast_ofNat_Int, Nat.add_zero, Bool.false_eq_true, if_false, if_true, brS_yes (hz ▸ hs) (hB.trans hb), hz, ← Nat.add_assoc]); (try exact JL_refl _)))
      · (refine sW (And.intro (decide_eq_false hs) (@yieldA_at 3 26)) (And.intro (onesN_ac hC) (onesN_ac hk)) ?_)
        (refine Drop_slots (by first | exact Nat.le_refl _ | simp) ?_; focus ((try simp only [JL_same, JL_J, JL_nil, Int.reduceAdd, Nat.sub_sub, Int.natCast_add, Int.natCast_one, Int.natCast_zero, Int.cast_ofNat_Int, Nat.add_zero, Bool.false_eq_true, if_false, if_true, brS_no1 (hz ▸ hs), ← Nat.add_assoc]); (try exact JL_refl _)))
    · (refine sN (@yieldA_at 3 26) ?_)
      rw [show (i + 1) * 16 = i * 16 + 16 by omega]
      (exact sS0)
  · (refine sN (@yieldA_at 3 26) ?_)
    (exact sR0)

theorem brOS_ac (m : Int) (a : Nat → UInt8) (h : List Blk) : AC Tryd.prog 7 [.int .i64 m, .agg (Bs 16 a).toArray] h (.tuple #[.int .i64 (cond (fieldB m.toNat) ((brS m.toNat a 240 : Nat) : Int) 0), .int .i64 (cond (fieldB m.toNat) 0 1)]) h := by
  cases hf : fieldB m.toNat
  · (refine AC_begin (fun _ _ => Tryd.call7 _ _) Tryd.func7 rfl Tryd.ntmps7 Tryd.results7 (fun hwf => ?_); simp only [List.length_cons, List.length_nil, Nat.reduceAdd, Nat.reduceSub, List.replicate, List.cons_append, List.nil_append])
    (repeat (first | ((first | (refine And.intro ?_ ?_; focus exact PLA) | ((first | with_reducible apply callB_i | with_reducible apply callK_intro | with_reducible apply callQ_i); (focus (first | assumption | (with_reducible apply fieldS_ac <;> (first | assumption | rfl | (simp (disch := omega) only [go_sem]; first | done | rfl) | omega | decide | (simp; done))))); (try exact WP_au)) | refine WA_seq (WA_region ?_) | refine WA_region ?_ | refine WA_exit ?_); try simp (maxSteps := 1000000) (disch := first | omega | rfl | decide | (simp only [List.length_cons, List.length_nil, List.length_append, LV] <;> omega)) only [go_sem, Nat.reduceAdd, Int.reduceAdd, Int.reduceSub, Int.reduceMul, Bool.not_true, Bool.not_false, hf, Bool.not_false]) | refine WA_seq ?_ | refine WA_block ?_ | (refine WA_skip ?_; try simp only [go_sem]) | (refine WA_ret ?_; try simp only [go_sem]) | refine WA_ct rfl ?_ | refine WA_cf rfl ?_))
    ((first | refine ret_nA ?_ | refine ret_sA ?_ | refine ret_fA ?_); simp (maxSteps := 1000000) (disch := first | omega | rfl | decide | (simp only [List.length_cons, List.length_nil, List.length_append, LV] <;> omega)) only [go_sem, Nat.reduceAdd, Int.reduceAdd, Int.reduceSub, Int.reduceMul, Bool.not_true, Bool.not_false, cond_false]; try rfl)
  · obtain ⟨p, rfl, hp, h0, h1⟩ := fieldB_nat hf
    (refine AC_begin (fun _ _ => Tryd.call7 _ _) Tryd.func7 rfl Tryd.ntmps7 Tryd.results7 (fun hwf => ?_); simp only [List.length_cons, List.length_nil, Nat.reduceAdd, Nat.reduceSub, List.replicate, List.cons_append, List.nil_append])
    (repeat (first | ((first | (refine And.intro ?_ ?_; focus exact PLA) | ((first | with_reducible apply callB_i | with_reducible apply callK_intro | with_reducible apply callQ_i); (focus (first | assumption | ((first | with_reducible apply fieldS_ac | with_reducible apply branchS_ac h0 h1) <;> (first | assumption | rfl | (simp (disch := omega) only [go_sem]; first | done | rfl) | omega | decide | (simp; done))))); (try exact WP_au)) | refine WA_seq (WA_region ?_) | refine WA_region ?_ | refine WA_exit ?_); try simp (maxSteps := 1000000) (disch := first | omega | rfl | decide | (simp only [List.length_cons, List.length_nil, List.length_append, LV] <;> omega)) only [go_sem, Nat.reduceAdd, Int.reduceAdd, Int.reduceSub, Int.reduceMul, Bool.not_true, Bool.not_false, hp, Bool.not_true]) | refine WA_seq ?_ | refine WA_block ?_ | (refine WA_skip ?_; try simp only [go_sem]) | (refine WA_ret ?_; try simp only [go_sem]) | refine WA_ct rfl ?_ | refine WA_cf rfl ?_))
    ((first | refine ret_nA ?_ | refine ret_sA ?_ | refine ret_fA ?_); simp (maxSteps := 1000000) (disch := first | omega | rfl | decide | (simp only [List.length_cons, List.length_nil, List.length_append, LV] <;> omega)) only [go_sem, Nat.reduceAdd, Int.reduceAdd, Int.reduceSub, Int.reduceMul, Bool.not_true, Bool.not_false, cond_true, Int.toNat_natCast]; try rfl)

theorem brOI_ac (m : Int) (a : Nat → UInt8) (h : List Blk) : AC Tryd.prog 6 [.int .i64 m, .agg (Bs 16 a).toArray] h (.tuple #[.int .i64 (cond (fieldB m.toNat) ((brS m.toNat a 240 : Nat) : Int) 0), .int .i64 (cond (fieldB m.toNat) 0 1)]) h := by
  cases hf : fieldB m.toNat
  · (refine AC_begin (fun _ _ => Tryd.call6 _ _) Tryd.func6 rfl Tryd.ntmps6 Tryd.results6 (fun hwf => ?_); simp only [List.length_cons, List.length_nil, Nat.reduceAdd, Nat.reduceSub, List.replicate, List.cons_append, List.nil_append])
    (repeat (first | ((first | (refine And.intro ?_ ?_; focus exact PLA) | ((first | with_reducible apply callB_i | with_reducible apply callK_intro | with_reducible apply callQ_i); (focus (first | assumption | (with_reducible apply isField_ac <;> (first | assumption | rfl | (simp (disch := omega) only [go_sem]; first | done | rfl) | omega | decide | (simp; done))))); (try exact WP_au)) | refine WA_seq (WA_region ?_) | refine WA_region ?_ | refine WA_exit ?_); try simp (maxSteps := 1000000) (disch := first | omega | rfl | decide | (simp only [List.length_cons, List.length_nil, List.length_append, LV] <;> omega)) only [go_sem, Nat.reduceAdd, Int.reduceAdd, Int.reduceSub, Int.reduceMul, Bool.not_true, Bool.not_false, hf, Bool.not_false]) | refine WA_seq ?_ | refine WA_block ?_ | (refine WA_skip ?_; try simp only [go_sem]) | (refine WA_ret ?_; try simp only [go_sem]) | refine WA_ct rfl ?_ | refine WA_cf rfl ?_))
    ((first | refine ret_nA ?_ | refine ret_sA ?_ | refine ret_fA ?_); simp (maxSteps := 1000000) (disch := first | omega | rfl | decide | (simp only [List.length_cons, List.length_nil, List.length_append, LV] <;> omega)) only [go_sem, Nat.reduceAdd, Int.reduceAdd, Int.reduceSub, Int.reduceMul, Bool.not_true, Bool.not_false, cond_false]; try rfl)
  · obtain ⟨p, rfl, hp, h0, h1⟩ := fieldB_nat hf
    (refine AC_begin (fun _ _ => Tryd.call6 _ _) Tryd.func6 rfl Tryd.ntmps6 Tryd.results6 (fun hwf => ?_); simp only [List.length_cons, List.length_nil, Nat.reduceAdd, Nat.reduceSub, List.replicate, List.cons_append, List.nil_append])
    (repeat (first | ((first | (refine And.intro ?_ ?_; focus exact PLA) | ((first | with_reducible apply callB_i | with_reducible apply callK_intro | with_reducible apply callQ_i); (focus (first | assumption | (with_reducible apply isField_ac <;> (first | assumption | rfl | (simp (disch := omega) only [go_sem]; first | done | rfl) | omega | decide | (simp; done))))); (try exact WP_au)) | refine WA_seq (WA_region ?_) | refine WA_region ?_ | refine WA_exit ?_); try simp (maxSteps := 1000000) (disch := first | omega | rfl | decide | (simp only [List.length_cons, List.length_nil, List.length_append, LV] <;> omega)) only [go_sem, Nat.reduceAdd, Int.reduceAdd, Int.reduceSub, Int.reduceMul, Bool.not_true, Bool.not_false, hp, Bool.not_true]) | refine WA_seq ?_ | refine WA_block ?_ | (refine WA_skip ?_; try simp only [go_sem]) | (refine WA_ret ?_; try simp only [go_sem]) | refine WA_ct rfl ?_ | refine WA_cf rfl ?_))
    refine WA_forP (fun k => [(6, .int .i64 ((brI p a (k * 16) : Nat) : Int)), (7, .int .i64 ((k + 1 : Nat) : Int)), (8, J), (9, J), (13, J), (14, J), (15, J), (16, J), (17, J), (18, J), (19, J), (20, J), (21, J), (22, J), (23, J), (24, J), (25, J), (26, J), (27, J), (28, J), (29, J), (30, J), (31, J), (32, J), (33, J), (34, J), (35, J), (36, J), (37, J), (38, J)]) (fun k => []) (15) ?_ ?_ ?_ <;> (try simp only [patT_cons, patT_nil, patL_cons, patL_nil, list_set_zero, list_set_succ, blk_set_zero, blk_set_succ])
    · (refine Drop_slots (by first | exact Nat.le_refl _ | simp) ?_; focus ((try simp only [JL_same, JL_J, JL_nil, Int.reduceAdd, Nat.sub_sub, Int.natCast_add, Int.natCast_one, Int.natCast_zero, Int.cast_ofNat_Int, Nat.add_zero, Bool.false_eq_true, if_false, if_true, show brI p a (0 * 16) = 8 from rfl]); (try exact JL_refl _)))
    · intro i hi
      (repeat (first | ((first | (refine And.intro ?_ ?_; focus exact PLA) | refine WA_seq (WA_region ?_) | refine WA_region ?_ | refine WA_exit ?_); try simp (maxSteps := 1000000) (disch := first | omega | rfl | decide | (simp only [List.length_cons, List.length_nil, List.length_append, LV] <;> omega)) only [go_sem, Nat.reduceAdd, Int.reduceAdd, Int.reduceSub, Int.reduceMul, Bool.not_true, Bool.not_false]) | refine WA_seq ?_ | refine WA_block ?_ | (refine WA_skip ?_; try simp only [go_sem]) | (refine WA_ret ?_; try simp only [go_sem]) | refine WA_ct rfl ?_ | refine WA_cf rfl ?_))
      refine WA_forP (fun k => [(6, .int .i64 ((brI p a (i * 16 + k) : Nat) : Int)), (8, J), (9, J), (17, .int .i64 k), (18, J), (19, J), (20, J), (21, J), (22, J), (23, J), (24, J), (25, J), (26, J), (27, J), (28, J), (29, J), (30, J), (31, J), (32, J), (33, J), (34, J), (35, J), (36, J), (37, J), (38, J)]) (fun k => []) (16) ?_ ?_ ?_ <;> (try simp only [patT_cons, patT_nil, patL_cons, patL_nil, list_set_zero, list_set_succ, blk_set_zero, blk_set_succ])
      · (refine Drop_slots (by first | exact Nat.le_refl _ | simp) ?_; focus ((try simp only [JL_same, JL_J, JL_nil, Int.reduceAdd, Nat.sub_sub, Int.natCast_add, Int.natCast_one, Int.natCast_zero, Int.cast_ofNat_Int, Nat.add_zero, Bool.false_eq_true, if_false, if_true]); (try exact JL_refl _)))
      · intro k hk
        obtain ⟨e1, e2⟩ := idx_div (i := i) hk
        have hc1 := cn_le (i + 1) 4
        have hc2 := cn_le k 4
        have hz : brZ (i * 16 + k) = cn (i + 1) 4 + 4 - cn k 4 := by unfold brZ; rw [e1, e2]
        have hB : brB p a (i * 16 + k) = decide (rkN p a k (i + 1) < cn (i + 1) 4) := by unfold brB; rw [e1, e2]
        have hC : i + 1 < 16 := by omega
        cases hb : decide (rkN p a k (i + 1) < cn (i + 1) 4)
        · (repeat (first | ((first | (refine And.intro ?_ ?_; focus exact PLA) | ((first | with_reducible apply callB_i | with_reducible apply callK_intro | with_reducible apply callQ_i); (focus (first | assumption | ((first | with_reducible apply ones_ac hC | with_reducible apply ones_ac hk | with_reducible apply rankI_ac h0 h1 a hk hC) <;> (first | assumption | rfl | (simp (disch := omega) only [go_sem]; first | done | rfl) | omega | decide | (simp; done))))); (try exact WP_au)) | refine WA_seq (WA_region ?_) | refine WA_region ?_ | refine WA_exit ?_); try simp (maxSteps := 1000000) (disch := first | omega | rfl | decide | (simp only [List.length_cons, List.length_nil, List.length_append, LV] <;> omega)) only [go_sem, Nat.reduceAdd, Int.reduceAdd, Int.reduceSub, Int.reduceMul, Bool.not_true, Bool.not_false, show (rkS p (cn k 4) (i + 1) (E0 k a) 4).r = rkN p a k (i + 1) from rfl, hb]) | refine WA_seq ?_ | refine WA_block ?_ | (refine WA_skip ?_; try simp only [go_sem]) | (refine WA_ret ?_; try simp only [go_sem]) | refine WA_ct rfl ?_ | refine WA_cf rfl ?_))
          (refine Drop_slots (by first | exact Nat.le_refl _ | simp) ?_; focus ((try simp only [JL_same, JL_J, JL_nil, Int.reduceAdd, Nat.sub_sub, Int.natCast_add, Int.natCast_one, Int.natCast_zero, Int.cast_ofNat_Int, Nat.add_zero, Bool.false_eq_true, if_false, if_true, brI_no (hB.trans hb), ← Nat.add_assoc]); (try exact JL_refl _)))
        · have hmin := brI_yes (hB.trans hb)
          rw [hz] at hmin
          (repeat (first | ((first | (refine And.intro ?_ ?_; focus exact PLA) | ((first | with_reducible apply callB_i | with_reducible apply callK_intro | with_reducible apply callQ_i); (focus (first | assumption | ((first | with_reducible apply ones_ac hC | with_reducible apply ones_ac hk | with_reducible apply rankI_ac h0 h1 a hk hC) <;> (first | assumption | rfl | (simp (disch := omega) only [go_sem]; first | done | rfl) | omega | decide | (simp; done))))); (try exact WP_au)) | refine WA_seq (WA_region ?_) | refine WA_region ?_ | refine WA_exit ?_); try simp (maxSteps := 1000000) (disch := first | omega | rfl | decide | (simp only [List.length_cons, List.length_nil, List.length_append, LV] <;> omega)) only [go_sem, Nat.reduceAdd, Int.reduceAdd, Int.reduceSub, Int.reduceMul, Bool.not_true, Bool.not_false, show (rkS p (cn k 4) (i + 1) (E0 k a) 4).r = rkN p a k (i + 1) from rfl, hb, hmin]) | refine WA_seq ?_ | refine WA_block ?_ | (refine WA_skip ?_; try simp only [go_sem]) | (refine WA_ret ?_; try simp only [go_sem]) | refine WA_ct rfl ?_ | refine WA_cf rfl ?_))
          (refine Drop_slots (by first | exact Nat.le_refl _ | simp) ?_; focus ((try simp only [JL_same, JL_J, JL_nil, Int.reduceAdd, Nat.sub_sub, Int.natCast_add, Int.natCast_one, Int.natCast_zero, Int.cast_ofNat_Int, Nat.add_zero, Bool.false_eq_true, if_false, if_true, ← Nat.add_assoc]); (try exact JL_refl _)))
      · (repeat (first | ((first | (refine And.intro ?_ ?_; focus exact PLA) | refine WA_seq (WA_region ?_) | refine WA_region ?_ | refine WA_exit ?_); try simp (maxSteps := 1000000) (disch := first | omega | rfl | decide | (simp only [List.length_cons, List.length_nil, List.length_append, LV] <;> omega)) only [go_sem, Nat.reduceAdd, Int.reduceAdd, Int.reduceSub, Int.reduceMul, Bool.not_true, Bool.not_false]) | refine WA_seq ?_ | refine WA_block ?_ | (refine WA_skip ?_; try simp only [go_sem]) | (refine WA_ret ?_; try simp only [go_sem]) | refine WA_ct rfl ?_ | refine WA_cf rfl ?_))
        rw [show (i + 1) * 16 = i * 16 + 16 by omega]
        (refine Drop_slots (by first | exact Nat.le_refl _ | simp) ?_; focus ((try simp only [JL_same, JL_J, JL_nil, Int.reduceAdd, Nat.sub_sub, Int.natCast_add, Int.natCast_one, Int.natCast_zero, Int.cast_ofNat_Int, Nat.add_zero, Bool.false_eq_true, if_false, if_true]); (try exact JL_refl _)))
    · rw [show (15 * 16 : Nat) = 240 from rfl, brI_fin]
      (repeat (first | ((first | (refine And.intro ?_ ?_; focus exact PLA) | refine WA_seq (WA_region ?_) | refine WA_region ?_ | refine WA_exit ?_); try simp (maxSteps := 1000000) (disch := first | omega | rfl | decide | (simp only [List.length_cons, List.length_nil, List.length_append, LV] <;> omega)) only [go_sem, Nat.reduceAdd, Int.reduceAdd, Int.reduceSub, Int.reduceMul, Bool.not_true, Bool.not_false]) | refine WA_seq ?_ | refine WA_block ?_ | (refine WA_skip ?_; try simp only [go_sem]) | (refine WA_ret ?_; try simp only [go_sem]) | refine WA_ct rfl ?_ | refine WA_cf rfl ?_))
      ((first | refine ret_nA ?_ | refine ret_sA ?_ | refine ret_fA ?_); simp (maxSteps := 1000000) (disch := first | omega | rfl | decide | (simp only [List.length_cons, List.length_nil, List.length_append, LV] <;> omega)) only [go_sem, Nat.reduceAdd, Int.reduceAdd, Int.reduceSub, Int.reduceMul, Bool.not_true, Bool.not_false, cond_true, Int.toNat_natCast]; try rfl)

end Go.Proofs.YtalbdgkbinndlaaDoor
/- Interpolation: both ways of reckoning it give the same. Plain Lean. -/
namespace Go.Proofs.YtalbdgkbinndlaaDoor
set_option linter.unusedSimpArgs false
set_option linter.unusedVariables false
set_option maxRecDepth 20000
set_option maxHeartbeats 1000000
open Go.Abs

/-- A row and the row shifted by one, added: the first n elements taken. -/
def stp (c0 c1 : Nat → UInt8) (n : Nat) : Nat → UInt8 := fun j => if j < n then (if j = 0 then c0 0 else c1 (j - 1) ^^^ c0 j) else if j = n ∧ 0 < n then c1 (n - 1) else 0
/-- How long the polynomial is after k places, the i-th left out. -/
def lagL (i k : Nat) : Nat := if i < k then k else k + 1
def own0 : Nat → UInt8 := fun n => if n = 0 then 1 else 0
section
variable (m : Nat) (f v : Nat → UInt8) (i : Nat)
def own : Nat → Nat → UInt8
  | 0 => own0
  | k + 1 => if k = i then own k else stp (fun n => tm m (own k n) (f k)) (own k) (lagL i k)
def part : Nat → Nat → UInt8
  | 0 => own0
  | k + 1 => if k = i then part k else stp (fun n => tm m (tm m (part k n) (f k)) (inv m (f i ^^^ f k))) (fun n => tm m (part k n) (inv m (f i ^^^ f k))) (lagL i k)
end
section
variable {m : Nat} {f v : Nat → UInt8} {i k : Nat}
end
end Go.Proofs.YtalbdgkbinndlaaDoor
/- Roots, traces, quadratic equations, values of polynomials. Plain. -/
namespace Go.Proofs.YtalbdgkbinndlaaDoor
set_option linter.unusedSimpArgs false
set_option linter.unusedVariables false
set_option maxRecDepth 20000
set_option maxHeartbeats 1000000
open Go.Abs

theorem x4 (a b c d : UInt8) : (a ^^^ b) ^^^ (c ^^^ d) = (a ^^^ c) ^^^ (b ^^^ d) := by
  rw [UInt8.xor_assoc, UInt8.xor_assoc, ← UInt8.xor_assoc b c d, ← UInt8.xor_assoc c b d, UInt8.xor_comm b c]
theorem u8_xor_eq {a b : UInt8} (h : a ^^^ b = 0) : a = b := by
  have h2 : (a ^^^ b) ^^^ b = 0 ^^^ b := by rw [h]
  rwa [UInt8.xor_assoc, UInt8.xor_self, UInt8.xor_zero, UInt8.zero_xor] at h2
section
variable {m : Nat} (h0 : 256 ≤ m) (h1 : m < 512)
include h0 h1
variable (hf : fieldB m = true)
include hf
theorem tm_nz {a b : UInt8} (h : tm m a b = 0) : a = 0 ∨ b = 0 := by
  by_cases ha : a = 0
  · exact .inl ha
  · right
    have h2 := congrArg (tm m (inv m a)) h
    rwa [← tm_assoc h0 h1, tm_comm h0 h1 (inv m a), tm_inv h0 h1 hf ha, tm_one h0 h1, tm_zeroR] at h2
end
/-- The value of the k uppermost of n coefficients, reckoned from above. -/
def hor (m : Nat) (c : Nat → UInt8) (x : UInt8) (n : Nat) : Nat → UInt8
  | 0 => 0
  | k + 1 => tm m (hor m c x n k) x ^^^ c (n - 1 - k)
section
variable {m : Nat} (h0 : 256 ≤ m) (h1 : m < 512)
include h0 h1
end
end Go.Proofs.YtalbdgkbinndlaaDoor
/- Ranks tell whether columns lead to zeros. Plain. -/
namespace Go.Proofs.YtalbdgkbinndlaaDoor
set_option linter.unusedSimpArgs false
set_option linter.unusedVariables false
set_option maxRecDepth 20000
set_option maxHeartbeats 1000000
open Go.Abs

theorem dt_nil {m : Nat} {r y : Nat → UInt8} : ∀ {n : Nat}, (∀ t, t < n → r t = 0 ∨ y t = 0) → dt m r y n = 0
  | 0, _ => rfl
  | n + 1, h => by
    show dt m r y n ^^^ tm m (r n) (y n) = 0
    rw [dt_nil fun t ht => h t (by omega), UInt8.zero_xor]
    rcases h n (by omega) with e | e
    · rw [e, tm_zero]
    · rw [e, tm_zeroR]
theorem dt_pick {m : Nat} {r y : Nat → UInt8} {J : Nat} : ∀ {n : Nat}, J < n → (∀ t, t < n → t ≠ J → r t = 0 ∨ y t = 0) → dt m r y n = tm m (r J) (y J)
  | 0, h, _ => absurd h (Nat.not_lt_zero J)
  | n + 1, hJ, h => by
    show dt m r y n ^^^ tm m (r n) (y n) = _
    by_cases e : n = J
    · subst e
      rw [dt_nil fun t ht => h t (by omega) (by omega), UInt8.zero_xor]
    · rw [dt_pick (by omega) fun t ht hne => h t (by omega) hne]
      rcases h n (by omega) e with e | e
      · rw [e, tm_zero, UInt8.xor_zero]
      · rw [e, tm_zeroR, UInt8.xor_zero]
theorem dt_e (m : Nat) (r u : Nat → UInt8) {J : Nat} (hJ : J < 4) (c : UInt8) : dt m r (fun t => u t ^^^ if t = J then c else 0) 4 = dt m r u 4 ^^^ tm m (r J) c := by
  rw [dt_xorR r u (fun t => if t = J then c else 0) 4, dt_pick hJ fun t _ hne => .inr (if_neg hne), if_pos rfl]
theorem elE_is {m L r j : Nat} {s : Nat → Nat} {v : UInt8} {E : Nat → Nat → UInt8} (hs : Pm L s) (hr : r < L) : ∀ t, r + 1 + t ≤ L → ∀ p, p < L →
    elE m s r j v E t (s p) = if r < p ∧ p < r + 1 + t then rowN m (tm m (E (s p) j) v) (E (s p)) (E (s r)) else E (s p)
  | 0, _, p, _ => by rw [if_neg (by omega)]; rfl
  | t + 1, h, p, hp => by
    have ih := elE_is (m := m) (j := j) (v := v) (E := E) hs hr t (by omega)
    have e1 := ih (r + 1 + t) (by omega)
    rw [if_neg (by omega)] at e1
    have e2 := ih r hr
    rw [if_neg (by omega)] at e2
    show upd (elE m s r j v E t) (s (r + 1 + t)) (rowN m (tm m (elE m s r j v E t (s (r + 1 + t)) j) v) (elE m s r j v E t (s (r + 1 + t))) (elE m s r j v E t (s r))) (s p) = _
    rw [e1, e2]
    unfold upd
    by_cases hpq : p = r + 1 + t
    · subst hpq
      rw [if_pos rfl, if_pos (by omega)]
    · rw [if_neg (fun e => hpq (hs.inj _ _ hp (by omega) e)), ih p hp]
      by_cases h3 : r < p ∧ p < r + 1 + t
      · rw [if_pos h3, if_pos (by omega)]
      · rw [if_neg h3, if_neg (by omega)]
/-- A column that all rows lead to 0. -/
def KerS (m L : Nat) (E : Nat → Nat → UInt8) (s : Nat → Nat) (u : Nat → UInt8) : Prop := ∀ p, p < L → dt m (E (s p)) u 4 = 0
theorem sw_lt {i k L : Nat} (hi : i < L) (hk : k < L) {p : Nat} (hp : p < L) : (if p = k then i else if p = i then k else p) < L := by
  split
  · exact hi
  · split
    · exact hk
    · exact hp
theorem sw_inv (s : Nat → Nat) {i k L : Nat} (hi : i < L) (hk : k < L) {p : Nat} (hp : p < L) : ∃ q, q < L ∧ swS s i k q = s p := by
  obtain ⟨q, hq⟩ : ∃ q, (p = k ∧ q = i) ∨ (p ≠ k ∧ p = i ∧ q = k) ∨ (p ≠ k ∧ p ≠ i ∧ q = p) := by
    by_cases h1 : p = k
    · exact ⟨i, .inl ⟨h1, rfl⟩⟩
    · by_cases h2 : p = i
      · exact ⟨k, .inr (.inl ⟨h1, h2, rfl⟩)⟩
      · exact ⟨p, .inr (.inr ⟨h1, h2, rfl⟩)⟩
  refine ⟨q, by omega, ?_⟩
  rw [swS_eq]
  congr 1
  split
  · omega
  · split <;> omega
theorem KerS_sw {m L : Nat} {E : Nat → Nat → UInt8} {s : Nat → Nat} {u : Nat → UInt8} {i k : Nat} (hi : i < L) (hk : k < L) : KerS m L E (swS s i k) u ↔ KerS m L E s u := by
  constructor
  · intro h p hp
    obtain ⟨q, hq, e⟩ := sw_inv s hi hk hp
    rw [← e]
    exact h q hq
  · intro h p hp
    rw [swS_eq]
    exact h _ (sw_lt hi hk hp)
section
variable {m : Nat} (h0 : 256 ≤ m) (h1 : m < 512)
include h0 h1
theorem rowN_dt (f : UInt8) (x y u : Nat → UInt8) : dt m (rowN m f x y) u 4 = dt m x u 4 ^^^ tm m f (dt m y u 4) := by
  show dt m (fun c => x c ^^^ tm m f (y c)) u 4 = _
  rw [dt_xor h0 h1 x (fun c => tm m f (y c)) u 4, dt_sclL h0 h1]
theorem gstep_ker {L j : Nat} {S : RkSt} (hs : Pm L S.s) (hr : S.r ≤ L) (u : Nat → UInt8) : KerS m L (gstep m L j S).E (gstep m L j S).s u ↔ KerS m L S.E S.s u := by
  by_cases hp : S.r + gpC L S.E S.s S.r j = L
  · rw [gstep_no hp]
  · have hle := gp_le (L := L) (E := S.E) (s := S.s) (r := S.r) (j := j) hr
    rw [gstep_yes hp]
    have hi : S.r + gpC L S.E S.s S.r j < L := by omega
    have hk : S.r < L := by omega
    have hP := Pm_sw hs hi hk
    rw [← KerS_sw (m := m) (E := S.E) (s := S.s) (u := u) hi hk]
    have key := fun p hp => elE_is (m := m) (j := j) (v := inv m (S.E (S.s (S.r + gpC L S.E S.s S.r j)) j)) (E := S.E) hP hk (L - (S.r + 1)) (by omega) p hp
    show KerS m L (elE m (swS S.s (S.r + gpC L S.E S.s S.r j) S.r) S.r j (inv m (S.E (S.s (S.r + gpC L S.E S.s S.r j)) j)) S.E (L - (S.r + 1))) (swS S.s (S.r + gpC L S.E S.s S.r j) S.r) u ↔ _
    constructor
    · intro h p hp
      have hr0 := h S.r hk
      rw [key S.r hk, if_neg (by omega)] at hr0
      have h2 := h p hp
      by_cases h3 : S.r < p
      · rw [key p hp, if_pos (by omega), rowN_dt h0 h1, hr0, tm_zeroR, UInt8.xor_zero] at h2
        exact h2
      · rw [key p hp, if_neg (by omega)] at h2
        exact h2
    · intro h p hp
      rw [key p hp]
      by_cases h3 : S.r < p
      · rw [if_pos (by omega), rowN_dt h0 h1, h p hp, h S.r hk, tm_zeroR, UInt8.xor_zero]
      · rw [if_neg (by omega)]
        exact h p hp
omit h0 h1 in
theorem gstep_low {L j : Nat} {S : RkSt} (hs : Pm L S.s) (hr : S.r ≤ L) {p : Nat} (hp : p < S.r) : (gstep m L j S).E ((gstep m L j S).s p) = S.E (S.s p) := by
  by_cases hn : S.r + gpC L S.E S.s S.r j = L
  · rw [gstep_no hn]
  · have hle := gp_le (L := L) (E := S.E) (s := S.s) (r := S.r) (j := j) hr
    rw [gstep_yes hn]
    have hP := Pm_sw hs (i := S.r + gpC L S.E S.s S.r j) (k := S.r) (by omega) (by omega)
    show elE m (swS S.s (S.r + gpC L S.E S.s S.r j) S.r) S.r j _ S.E (L - (S.r + 1)) (swS S.s (S.r + gpC L S.E S.s S.r j) S.r p) = _
    rw [elE_is hP (by omega) _ (by omega) p (by omega), if_neg (by omega), swS_eq, if_neg (by omega), if_neg (by omega)]
omit h0 h1 in
/-- The row that a step takes. -/
theorem gstep_row {L j : Nat} {S : RkSt} (hs : Pm L S.s) (hr : S.r ≤ L) (hn : S.r + gpC L S.E S.s S.r j ≠ L) : (gstep m L j S).r = S.r + 1 ∧ (gstep m L j S).E ((gstep m L j S).s S.r) = S.E (S.s (S.r + gpC L S.E S.s S.r j)) := by
  have hle := gp_le (L := L) (E := S.E) (s := S.s) (r := S.r) (j := j) hr
  rw [gstep_yes hn]
  have hP := Pm_sw hs (i := S.r + gpC L S.E S.s S.r j) (k := S.r) (by omega) (by omega)
  refine ⟨rfl, ?_⟩
  show elE m (swS S.s (S.r + gpC L S.E S.s S.r j) S.r) S.r j _ S.E (L - (S.r + 1)) (swS S.s (S.r + gpC L S.E S.s S.r j) S.r S.r) = _
  rw [elE_is hP (by omega) _ (by omega) S.r (by omega), if_neg (by omega), swS_at]
theorem gstep_Z (hf : fieldB m = true) {L j : Nat} {S : RkSt} (hL : L ≤ 4) (hs : Pm L S.s) (hr : S.r ≤ L) {c : Nat} (hc : c = j ∨ ∀ p, S.r ≤ p → p < L → S.E (S.s p) c = 0) {p : Nat} (hp : (gstep m L j S).r ≤ p) (hpL : p < L) : (gstep m L j S).E ((gstep m L j S).s p) c = 0 := by
  by_cases hn : S.r + gpC L S.E S.s S.r j = L
  · rw [gstep_no hn] at hp ⊢
    rcases hc with rfl | hc
    · have := (gp_go (L := L) (E := S.E) (s := S.s) (r := S.r) (j := c) (i := p - S.r) (by omega)).2
      rw [show S.r + (p - S.r) = p by omega] at this
      exact eq_of_beq this
    · exact hc p hp hpL
  · have hle := gp_le (L := L) (E := S.E) (s := S.s) (r := S.r) (j := j) hr
    have he := gp_end (L := L) (E := S.E) (s := S.s) (r := S.r) (j := j) hr hL hn
    rw [gstep_yes hn] at hp ⊢
    have hp' : S.r + 1 ≤ p := hp
    have hP := Pm_sw hs (i := S.r + gpC L S.E S.s S.r j) (k := S.r) (by omega) (by omega)
    show elE m (swS S.s (S.r + gpC L S.E S.s S.r j) S.r) S.r j _ S.E (L - (S.r + 1)) (swS S.s (S.r + gpC L S.E S.s S.r j) S.r p) c = 0
    rw [elE_is hP (by omega) _ (by omega) p hpL, if_pos (by omega), swS_at]
    show S.E (swS S.s _ S.r p) c ^^^ tm m (tm m (S.E (swS S.s _ S.r p) j) (inv m (S.E (S.s (S.r + gpC L S.E S.s S.r j)) j))) (S.E (S.s (S.r + gpC L S.E S.s S.r j)) c) = 0
    rcases hc with rfl | hc
    · have hne : S.E (S.s (S.r + gpC L S.E S.s S.r c)) c ≠ 0 := fun e => by rw [e] at he; exact absurd he (by decide)
      rw [tm_assoc h0 h1, tm_comm h0 h1 (inv m _), tm_inv h0 h1 hf hne, tm_oneR h0 h1, UInt8.xor_self]
    · rw [hc (S.r + gpC L S.E S.s S.r j) (by omega) (by omega), tm_zeroR, UInt8.xor_zero, swS_eq]
      refine hc _ ?_ (sw_lt (by omega) (by omega) hpL)
      split
      · omega
      · split <;> omega
/-- A column whose elements other than 0 are within a mask, ahead of place J. -/
def Sup (C J : Nat) (u : Nat → UInt8) : Prop := ∀ j, j < 4 → u j ≠ 0 → C.testBit j = true ∧ j < J
omit h0 h1 in
theorem Sup_z {C J : Nat} {u : Nat → UInt8} (h : Sup C J u) {j : Nat} (hj : j < 4) (hn : ¬ (C.testBit j = true ∧ j < J)) : u j = 0 := Classical.byContradiction fun hne => hn (h j hj hne)
omit h0 h1 in
theorem rkS_le (L C : Nat) (E : Nat → Nat → UInt8) : ∀ J, (rkS m L C E J).r ≤ cn C J
  | 0 => Nat.le_refl 0
  | J + 1 => by
    have ih := rkS_le L C E J
    have hi := rkS_inv m L C E J
    cases hb : C.testBit J
    · rw [rkS_f hb, cn_f hb]; exact ih
    · rw [rkS_t hb, cn_t hb]
      by_cases hn : (rkS m L C E J).r + gpC L (rkS m L C E J).E (rkS m L C E J).s (rkS m L C E J).r J = L
      · rw [gstep_no hn]; omega
      · rw [(gstep_row hi.1 hi.2 hn).1]; omega
theorem rkS_Z (hf : fieldB m = true) {L : Nat} (hL : L ≤ 4) (C : Nat) (E : Nat → Nat → UInt8) : ∀ J p, (rkS m L C E J).r ≤ p → p < L → ∀ j, j < J → C.testBit j = true → (rkS m L C E J).E ((rkS m L C E J).s p) j = 0
  | 0, _, _, _, _, h, _ => absurd h (Nat.not_lt_zero _)
  | J + 1, p, hp, hpL, j, hj, hjC => by
    have ih := rkS_Z hf hL C E J
    have hi := rkS_inv m L C E J
    cases hb : C.testBit J
    · rw [rkS_f hb] at hp ⊢
      refine ih p hp hpL j ?_ hjC
      rcases Nat.lt_or_ge j J with h | h
      · exact h
      · rw [show j = J by omega, hb] at hjC; cases hjC
    · rw [rkS_t hb] at hp ⊢
      refine gstep_Z h0 h1 hf hL hi.1 hi.2 ?_ hp hpL
      rcases Nat.lt_or_ge j J with h | h
      · exact .inr fun q hq hqL => ih q hq hqL j h hjC
      · exact .inl (by omega)
/-- As many steps as columns: only the column 0 leads to zeros. -/
theorem rk_full (hf : fieldB m = true) {L : Nat} (hL : L ≤ 4) (C : Nat) (E : Nat → Nat → UInt8) : ∀ J, J ≤ 4 → (rkS m L C E J).r = cn C J → ∀ u, Sup C J u → KerS m L (rkS m L C E J).E (rkS m L C E J).s u → ∀ j, j < 4 → u j = 0
  | 0, _, _, u, hu, _, j, hj => Sup_z hu hj fun h => absurd h.2 (Nat.not_lt_zero _)
  | J + 1, hJ, hr, u, hu, hk, j, hj => by
    have ih := rk_full hf hL C E J (by omega)
    have hi := rkS_inv m L C E J
    have hle := rkS_le (m := m) L C E J
    cases hb : C.testBit J
    · rw [rkS_f hb, cn_f hb] at hr
      rw [rkS_f hb] at hk
      refine ih hr u (fun q hq hne => ?_) hk j hj
      obtain ⟨e1, e2⟩ := hu q hq hne
      refine ⟨e1, ?_⟩
      rcases Nat.lt_or_ge q J with h | h
      · exact h
      · rw [show q = J by omega, hb] at e1; cases e1
    · rw [rkS_t hb, cn_t hb] at hr
      rw [rkS_t hb, gstep_ker h0 h1 hi.1 hi.2] at hk
      by_cases hn : (rkS m L C E J).r + gpC L (rkS m L C E J).E (rkS m L C E J).s (rkS m L C E J).r J = L
      · rw [gstep_no hn] at hr; omega
      · have he := gp_end hi.2 hL hn
        have hg := gp_le (L := L) (E := (rkS m L C E J).E) (s := (rkS m L C E J).s) (r := (rkS m L C E J).r) (j := J) hi.2
        rw [(gstep_row hi.1 hi.2 hn).1] at hr
        have hrow := hk ((rkS m L C E J).r + gpC L (rkS m L C E J).E (rkS m L C E J).s (rkS m L C E J).r J) (by omega)
        rw [dt_pick (J := J) (by omega) fun t ht hne => by
          by_cases h3 : C.testBit t = true ∧ t < J
          · exact .inl (rkS_Z h0 h1 hf hL C E J _ (by omega) (by omega) t h3.2 h3.1)
          · exact .inr (Sup_z hu ht fun h4 => h3 ⟨h4.1, by omega⟩)] at hrow
        have huJ : u J = 0 := by
          rcases tm_nz h0 h1 hf hrow with e | e
          · rw [e] at he; exact absurd he (by decide)
          · exact e
        refine ih (by omega) u (fun q hq hne => ?_) hk j hj
        obtain ⟨e1, e2⟩ := hu q hq hne
        refine ⟨e1, ?_⟩
        rcases Nat.lt_or_ge q J with h | h
        · exact h
        · rw [show q = J by omega] at hne; exact absurd huJ hne
/-- As many steps as columns: each target is met. -/
theorem rk_onto (hf : fieldB m = true) {L : Nat} (hL : L ≤ 4) (C : Nat) (E : Nat → Nat → UInt8) : ∀ J, J ≤ 4 → (rkS m L C E J).r = cn C J → ∀ w : Nat → UInt8, ∃ u, Sup C J u ∧ ∀ p, p < (rkS m L C E J).r → dt m ((rkS m L C E J).E ((rkS m L C E J).s p)) u 4 = w p
  | 0, _, hr, w => ⟨fun _ => 0, fun _ _ h => absurd rfl h, fun p hp => by rw [hr] at hp; exact absurd hp (Nat.not_lt_zero _)⟩
  | J + 1, hJ, hr, w => by
    have ih := rk_onto hf hL C E J (by omega)
    have hi := rkS_inv m L C E J
    have hle := rkS_le (m := m) L C E J
    cases hb : C.testBit J
    · rw [rkS_f hb, cn_f hb] at hr
      obtain ⟨u, hu, h⟩ := ih hr w
      rw [rkS_f hb]
      exact ⟨u, fun q hq hne => ⟨(hu q hq hne).1, by have := (hu q hq hne).2; omega⟩, h⟩
    · rw [rkS_t hb, cn_t hb] at hr
      rw [rkS_t hb]
      by_cases hn : (rkS m L C E J).r + gpC L (rkS m L C E J).E (rkS m L C E J).s (rkS m L C E J).r J = L
      · rw [gstep_no hn] at hr; omega
      · have he := gp_end hi.2 hL hn
        have hg := gp_le (L := L) (E := (rkS m L C E J).E) (s := (rkS m L C E J).s) (r := (rkS m L C E J).r) (j := J) hi.2
        obtain ⟨hr1, hrow⟩ := gstep_row (m := m) hi.1 hi.2 hn
        rw [hr1] at hr
        obtain ⟨pv, hpv⟩ : ∃ x, x = (rkS m L C E J).E ((rkS m L C E J).s ((rkS m L C E J).r + gpC L (rkS m L C E J).E (rkS m L C E J).s (rkS m L C E J).r J)) J := ⟨_, rfl⟩
        have hne : pv ≠ 0 := fun e => by rw [← hpv, e] at he; exact absurd he (by decide)
        obtain ⟨u, hu, h⟩ := ih (by omega) fun p => w p ^^^ tm m ((rkS m L C E J).E ((rkS m L C E J).s p) J) (tm m (w (rkS m L C E J).r) (inv m pv))
        refine ⟨fun t => u t ^^^ if t = J then tm m (w (rkS m L C E J).r) (inv m pv) else 0, fun q hq hne => ?_, fun p hp => ?_⟩
        · by_cases hqJ : q = J
          · rw [hqJ]; exact ⟨hb, by omega⟩
          · have hq2 : u q ≠ 0 := fun e => hne (by show u q ^^^ (if q = J then _ else 0) = 0; rw [e, if_neg hqJ, UInt8.xor_zero])
            exact ⟨(hu q hq hq2).1, by have := (hu q hq hq2).2; omega⟩
        · rw [hr1] at hp
          rw [dt_e m _ u (by omega)]
          by_cases hpr : p = (rkS m L C E J).r
          · rw [hpr, hrow, dt_nil fun t ht => by
              by_cases h3 : C.testBit t = true ∧ t < J
              · exact .inl (rkS_Z h0 h1 hf hL C E J _ (by omega) (by omega) t h3.2 h3.1)
              · exact .inr (Sup_z hu ht h3), UInt8.zero_xor, ← hpv, tm_comm h0 h1 (w _), ← tm_assoc h0 h1, tm_inv h0 h1 hf hne, tm_one h0 h1]
          · rw [gstep_low hi.1 hi.2 (by omega), h p (by omega), UInt8.xor_assoc, UInt8.xor_self, UInt8.xor_zero]
/-- Fewer steps than columns: a column other than 0 leads to zeros. -/
theorem rk_less (hf : fieldB m = true) {L : Nat} (hL : L ≤ 4) (C : Nat) (E : Nat → Nat → UInt8) : ∀ J, J ≤ 4 → (rkS m L C E J).r < cn C J → ∃ u, Sup C J u ∧ KerS m L (rkS m L C E J).E (rkS m L C E J).s u ∧ ∃ j, j < 4 ∧ u j ≠ 0
  | 0, _, hr => absurd hr (Nat.not_lt_zero _)
  | J + 1, hJ, hr => by
    have ih := rk_less hf hL C E J (by omega)
    have hi := rkS_inv m L C E J
    have hle := rkS_le (m := m) L C E J
    cases hb : C.testBit J
    · rw [rkS_f hb, cn_f hb] at hr
      obtain ⟨u, hu, h⟩ := ih hr
      rw [rkS_f hb]
      exact ⟨u, fun q hq hne => ⟨(hu q hq hne).1, by have := (hu q hq hne).2; omega⟩, h⟩
    · rw [rkS_t hb, cn_t hb] at hr
      rw [rkS_t hb]
      rcases Nat.lt_or_ge (rkS m L C E J).r (cn C J) with hlt | hge
      · obtain ⟨u, hu, h, hx⟩ := ih hlt
        exact ⟨u, fun q hq hne => ⟨(hu q hq hne).1, by have := (hu q hq hne).2; omega⟩, (gstep_ker h0 h1 hi.1 hi.2 u).2 h, hx⟩
      · by_cases hn : (rkS m L C E J).r + gpC L (rkS m L C E J).E (rkS m L C E J).s (rkS m L C E J).r J = L
        · obtain ⟨u, hu, h⟩ := rk_onto h0 h1 hf hL C E J (by omega) (by omega) fun p => (rkS m L C E J).E ((rkS m L C E J).s p) J
          have huJ : u J = 0 := Sup_z hu (by omega) fun h => Nat.lt_irrefl J h.2
          refine ⟨fun t => u t ^^^ if t = J then 1 else 0, fun q hq hne => ?_, ?_, J, by omega, by show u J ^^^ (if J = J then 1 else 0) ≠ 0; rw [huJ, if_pos rfl]; decide⟩
          · by_cases hqJ : q = J
            · rw [hqJ]; exact ⟨hb, by omega⟩
            · have hq2 : u q ≠ 0 := fun e => hne (by show u q ^^^ (if q = J then _ else 0) = 0; rw [e, if_neg hqJ, UInt8.xor_zero])
              exact ⟨(hu q hq hq2).1, by have := (hu q hq hq2).2; omega⟩
          · rw [gstep_no hn]
            intro p hp
            rw [dt_e m _ u (by omega), tm_oneR h0 h1]
            rcases Nat.lt_or_ge p (rkS m L C E J).r with h3 | h3
            · rw [h p h3, UInt8.xor_self]
            · have hz := (gp_go (L := L) (E := (rkS m L C E J).E) (s := (rkS m L C E J).s) (r := (rkS m L C E J).r) (j := J) (i := p - (rkS m L C E J).r) (by omega)).2
              rw [show (rkS m L C E J).r + (p - (rkS m L C E J).r) = p by omega] at hz
              rw [eq_of_beq hz, UInt8.xor_zero]
              exact dt_nil fun t ht => by
                by_cases h3 : C.testBit t = true ∧ t < J
                · exact .inl (rkS_Z h0 h1 hf hL C E J _ (by omega) hp t h3.2 h3.1)
                · exact .inr (Sup_z hu ht h3)
        · rw [(gstep_row hi.1 hi.2 hn).1] at hr; omega
theorem rkS_ker {L : Nat} (C : Nat) (E : Nat → Nat → UInt8) (u : Nat → UInt8) : ∀ J, KerS m L (rkS m L C E J).E (rkS m L C E J).s u ↔ KerS m L E (fun p => p) u
  | 0 => Iff.rfl
  | J + 1 => by
    have ih := rkS_ker (L := L) C E u J
    have hi := rkS_inv m L C E J
    cases hb : C.testBit J
    · rw [rkS_f hb]; exact ih
    · rw [rkS_t hb, gstep_ker h0 h1 hi.1 hi.2]; exact ih
end
/-- The rank is less than the number of columns exactly if a column other than 0 within them leads to zeros. -/
theorem rank_ker {m : Nat} (h0 : 256 ≤ m) (h1 : m < 512) (hf : fieldB m = true) {L : Nat} (hL : L ≤ 4) (C : Nat) (E : Nat → Nat → UInt8) :
    (rkS m L C E 4).r < cn C 4 ↔ ∃ u : Nat → UInt8, (∀ j, j < 4 → u j ≠ 0 → C.testBit j = true) ∧ (∀ p, p < L → dt m (E p) u 4 = 0) ∧ ∃ j, j < 4 ∧ u j ≠ 0 := by
  constructor
  · intro h
    obtain ⟨u, hu, hk, hx⟩ := rk_less h0 h1 hf hL C E 4 (Nat.le_refl 4) h
    exact ⟨u, fun j hj hne => (hu j hj hne).1, (rkS_ker h0 h1 C E u 4).1 hk, hx⟩
  · rintro ⟨u, hu, hk, j, hj, hne⟩
    rcases Nat.lt_or_ge (rkS m L C E 4).r (cn C 4) with h | h
    · exact h
    · exact absurd (rk_full h0 h1 hf hL C E 4 (Nat.le_refl 4) (Nat.le_antisymm (rkS_le L C E 4) h) u (fun q hq hq2 => ⟨hu q hq hq2, hq⟩) ((rkS_ker h0 h1 C E u 4).2 hk) j hj) hne
end Go.Proofs.YtalbdgkbinndlaaDoor
/- What FnPlaces needs: cycles told with memory opaque, rows compared. -/
namespace Go.Proofs.YtalbdgkbinndlaaDoor
set_option linter.unusedSimpArgs false
set_option linter.unusedVariables false
set_option maxRecDepth 20000
set_option maxHeartbeats 1000000
open Go.Abs

attribute [local irreducible] cyC cyRow
/-- The cycles of places, as returned. -/
inductive CyV (p : Nat → UInt8) (h : List Blk) : Value → Prop
  | no (hp : plOk p = false) : CyV p h (.slice none 0 0)
  | ok (hp : plOk p = true) {b : Nat} {g : Nat → Nat} {r r' : Bool} (hb : h[b]? = some ⟨Vs (cyC p 16) fun j => sl (g j) 0 (cyRow p j).length 1, r⟩) (hr : ∀ j, j < cyC p 16 → h[g j]? = some ⟨Il (cyRow p j), r'⟩) : CyV p h (sl b 0 (cyC p 16) 1)
theorem CyV.app {p : Nat → UInt8} {h : List Blk} {v : Value} (c : CyV p h v) (L : List Blk) : CyV p (h ++ L) v := by
  cases c with
  | no hp => exact .no hp
  | ok hp hb hr => exact .ok hp (look_old hb L) fun j hj => look_old (hr j hj) L
theorem WA_wf {P : Program} {n0 : Nat} {c : Code} {Q : Exit → AS → Prop} {t : List Value} {H : List Blk} (k : WfH H → WA P n0 c Q ⟨t, H⟩) : WA P n0 c Q ⟨t, H⟩ := fun E a w hn hs => k hs.mem.wf E a w hn hs
/-- A value that knows the first N blocks alone. -/
def OldV (N : Nat) (v : Value) : Prop := ∀ (r : List Nat) (n' : Nat), N ≤ n' → v = renV N r v ∧ wfV n' v
theorem JR_old {N n' : Nat} {r : List Nat} {a : Value} {l l' : List Value} (ho : OldV N a) (hn : N ≤ n') (h : JR N r n' l l') : JR N r n' (a :: l) (a :: l') := ⟨.inr (ho r n' hn), h⟩
theorem OldV_plain {N : Nat} {v : Value} (h : plainV v = true) : OldV N v := fun _ _ _ => ⟨(renV_plain h).symm, plainV_wf h⟩
theorem OldV_sl {N b o n z : Nat} (h : b < N) : OldV N (sl b o n z) := fun r n' hn => by
  refine ⟨?_, show b < n' by omega⟩
  show sl b o n z = Value.slice (some (renA N r ⟨b, o, none⟩)) n z
  unfold renA
  rw [rhoF_old h]
theorem Cv.old {h : List Blk} {cv : Value} {N : Nat} (c : Cv h cv) (hN : h.length ≤ N) : OldV N cv := by
  cases c with
  | nil => exact OldV_plain rfl
  | sl hb hn => exact OldV_sl (Nat.lt_of_lt_of_le (blt hb) hN)
/-- What stands behind is given up. -/
theorem Drop_gc0 {m : Nat} {t t' : List Value} {H L : List Blk} (hm : m ≤ H.length) (hwf : WfH H) (hj : JR H.length [] H.length t t') : Drop m ⟨t, H ++ L⟩ ⟨t', H⟩ := by
  have := Drop_gc (m := m) [] (L := L) (L' := []) hm hwf (by decide) trivial (by rw [List.append_nil]; exact hj)
  rwa [List.append_nil] at this
theorem app_tr {h H K : List Blk} (e : ∃ A, H = h ++ A) (e2 : ∃ A, K = H ++ A) : ∃ A, K = h ++ A := by
  obtain ⟨A, rfl⟩ := e
  obtain ⟨B, rfl⟩ := e2
  exact ⟨A ++ B, List.append_assoc ..⟩
end Go.Proofs.YtalbdgkbinndlaaDoor
